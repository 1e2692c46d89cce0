/- parts -/
import Derived.Test.YtfgpefcphnpabaaGreatJ13
import Derived.Test.YtfgpefcphnpabaaGreatJ14
import Derived.Test.YtfgpefcphnpabaaGreatJ19
import Derived.Sort.OwnSortedInts
import Derived.Shelf.Strings.Builder1
namespace Go.Proofs.YtfgpefcphnpabaaGreat
open Go.RowKit
set_option maxRecDepth 100000
set_option maxHeartbeats 8000000
theorem posAt_none (c : List Pr) (key : ByteArray) (h : ∀ p ∈ c, lt key p.1 = true) : posAt c key = 0 := posAt_right [] c key h
theorem rowAll {σ : MSt} {key : ByteArray} {h : Nat} {hi : Option ByteArray} (hW : ∀ k z b c x, TrM σ h 2 k z b c x → WalkL σ key h b (c.drop (posAt c key))) : ∀ {l : List (ByteArray × Int)} {cs : List Pr} {bs : List Int}, RowL (TrM σ h 2) hi l cs bs → (∀ p ∈ cs, lt key p.1 = true) →
  ∃ Ls : List (List Pr), Ls.length = (l.map (·.2)).length ∧ (∀ i (h1 : i < (l.map (·.2)).length) (h2 : i < Ls.length), WalkL σ key h (l.map (·.2))[i] Ls[i]) ∧ Ls.flatten = cs
 | [], _, _, ⟨e, _⟩, _ => ⟨[], rfl, fun i h1 => absurd h1 (by simp), e.symm⟩
 | (k, b) :: l, _, _, hr, hp => by
  obtain ⟨c, cs', x, bs', h1, h2, rfl, rfl⟩ := hr
  obtain ⟨Ls, q1, q2, q3⟩ := rowAll hW h2 (fun p hp' => hp p (List.mem_append_right _ hp'))
  have hw := hW _ _ _ _ _ h1
  rw [posAt_none c key (fun p hp' => hp p (List.mem_append_left _ hp')), List.drop_zero] at hw
  refine ⟨c :: Ls, by simp at q1 ⊢; exact q1, fun i i1 i2 => ?_, by rw [List.flatten_cons, q3]⟩
  cases i with
  | zero => exact hw
  | succ i => exact q2 i (by simpa using i1) (by simpa using i2)
theorem rowWalk {σ : MSt} {key : ByteArray} {h : Nat} {hi : Option ByteArray} (hW : ∀ k z b c x, TrM σ h 2 k z b c x → WalkL σ key h b (c.drop (posAt c key))) : ∀ {r : List (ByteArray × Int)} {k : ByteArray} {b : Int} {cs : List Pr} {bs : List Int}, RowL (TrM σ h 2) hi ((k, b) :: r) cs bs →
  ∃ Ls : List (List Pr), Ls.length = ((b :: r.map (·.2)).drop (kidAt (r.map (·.1)) key)).length ∧ (∀ i (h1 : i < ((b :: r.map (·.2)).drop (kidAt (r.map (·.1)) key)).length) (h2 : i < Ls.length), WalkL σ key h ((b :: r.map (·.2)).drop (kidAt (r.map (·.1)) key))[i] Ls[i]) ∧ Ls.flatten = cs.drop (posAt cs key)
 | [], k, b, _, _, hr => by
  obtain ⟨c, cs', x, bs', h1, ⟨rfl, rfl⟩, rfl, rfl⟩ := hr
  refine ⟨[c.drop (posAt c key)], by simp [kidAt], fun i i1 i2 => ?_, by simp⟩
  have : i = 0 := by simp at i2; exact i2
  subst this
  exact hW _ _ _ _ _ h1
 | (k1, b1) :: r, k, b, _, _, hr => by
  obtain ⟨c, cs', x, bs', h1, h2, rfl, rfl⟩ := hr
  have hT : ∀ k z b c x, TrM σ h 2 k z b c x → Content k z c := fun _ _ _ _ _ ht => ht.content
  cases hlt : lt key k1 with
  | true =>
   have hc := RowL.content hT h2
   have hall : ∀ p ∈ cs', lt key p.1 = true := fun p hp => lt_le hlt (hc.within p hp).1
   obtain ⟨Ls, q1, q2, q3⟩ := rowAll hW h2 hall
   have e : kidAt (((k1, b1) :: r).map (·.1)) key = 0 := by simp [kidAt, hlt]
   simp only [e, List.drop_zero]
   refine ⟨c.drop (posAt c key) :: Ls, by simp at q1 ⊢; exact q1, fun i i1 i2 => ?_, ?_⟩
   ·cases i with
    | zero => exact hW _ _ _ _ _ h1
    | succ i => exact q2 i (by simpa using i1) (by simpa using i2)
   ·rw [List.flatten_cons, q3, posAt_right c cs' key hall, List.drop_append_of_le_length (posAt_le _ _)]
  | false =>
   obtain ⟨Ls, q1, q2, q3⟩ := rowWalk hW h2
   have e : kidAt (((k1, b1) :: r).map (·.1)) key = kidAt (r.map (·.1)) key + 1 := by simp [kidAt, hlt]
   have hall : ∀ p ∈ c, lt p.1 key = true := fun p hp => lt_le ((hT _ _ _ _ _ h1).within p hp |>.2 k1 rfl) hlt
   simp only [e, List.drop_succ_cons]
   refine ⟨Ls, by simpa using q1, fun i i1 i2 => q2 i (by simpa using i1) i2, ?_⟩
   rw [q3, posAt_left c cs' key hall, List.drop_append, List.drop_of_length_le (l := c) (by omega), Nat.add_sub_cancel_left, List.nil_append]
theorem TrM.walk {σ : MSt} {key : ByteArray} : ∀ {h m : Nat} {lo : ByteArray} {hi : Option ByteArray} {b : Int} {cs : List Pr} {bs : List Int}, TrM σ h m lo hi b cs bs → WalkL σ key h b (cs.drop (posAt cs key))
 | 0, _, _, _, _, _, _, ⟨nd, h1, _, h3, h4, _, h6, _, _⟩ => by
  subst h4
  exact .leaf h1 h3 h6
 | h + 1, m, lo, hi, b, cs, bs, ⟨nd, bs', h1, h2, h3, _, _, h6⟩ => by
  have hkeys := TrM.rising h2 h3 h6
  obtain ⟨b0, l, e, e2, e3⟩ := zip_lows h2.kk h3 lo
  unfold Nd.row at h6
  rw [e] at h6
  obtain ⟨Ls, q1, q2, q3⟩ := rowWalk (key := key) (fun _ _ _ _ _ ht => TrM.walk ht) h6
  have e4 : (l.map (·.1)) = nd.keys := e2
  have e5 : b0 :: l.map (·.2) = nd.kids := e3.symm
  simp only [e4, e5] at q1 q2
  rw [← q3]
  exact .inner Ls h1 h3 hkeys q1 q2
theorem RowL.pow {T : ByteArray → Option ByteArray → Int → List Pr → List Int → Prop} {p : Nat} (hT : ∀ k z b c x, T k z b c x → p ≤ c.length) {hi : Option ByteArray} : ∀ {l : List (ByteArray × Int)} {cs : List Pr} {bs : List Int}, RowL T hi l cs bs → l.length * p ≤ cs.length
 | [], _, _, _ => by simp
 | (k, b) :: l, _, _, h => by
  obtain ⟨c, cs', x, bs', h1, h2, rfl, rfl⟩ := h
  have a := hT _ _ _ _ _ h1
  have b := RowL.pow hT h2
  simp only [List.length_append, List.length_cons, Nat.add_mul, Nat.one_mul]; omega
theorem TrM.pow {σ : MSt} : ∀ {h : Nat} {lo : ByteArray} {hi : Option ByteArray} {b : Int} {cs : List Pr} {bs : List Int}, TrM σ h 2 lo hi b cs bs → 2 ^ h ≤ cs.length
 | 0, _, _, _, _, _, ⟨_, _, _, _, _, h5, _, _, _⟩ => by
  rw [Nat.pow_zero]
  exact List.length_pos_iff.2 h5
 | h + 1, _, _, _, _, _, ⟨nd, bs', _, h2, h3, h4, h5, h6⟩ => by
  have := RowL.pow (fun _ _ _ _ _ ht => TrM.pow ht) h6
  rw [nd.row_length h2 h3] at this
  have : 2 * 2 ^ h ≤ nd.kids.length * 2 ^ h := Nat.mul_le_mul_right _ h4
  rw [Nat.pow_succ]; omega
theorem TrM.low {σ : MSt} {h : Nat} {lo : ByteArray} {hi : Option ByteArray} {b : Int} {cs : List Pr} {bs : List Int} (ht : TrM σ h 2 lo hi b cs bs) (hl : cs.length ≤ 4095) : h ≤ 11 := by
 have h1 := ht.pow
 rcases Nat.lt_or_ge 11 h with h2 | h2
 ·have : 2 ^ 12 ≤ 2 ^ h := Nat.pow_le_pow_right (by omega) h2
  omega
 ·exact h2
theorem TrR.rise {σ : MSt} {root : Int} {cs : List Pr} {bs : List Int} (h : TrR σ root cs bs) : RisingP cs := by
 rcases h with ⟨_, rfl, _⟩ | ⟨h, ht⟩
 ·exact List.Pairwise.nil
 ·exact ht.content.rise
theorem TrR.has {σ : MSt} {root : Int} {cs : List Pr} {bs : List Int} (h : TrR σ root cs bs) : ∀ x ∈ bs, σ.hasB x = true := by
 rcases h with ⟨_, _, rfl⟩ | ⟨h, ht⟩
 ·simp
 ·exact ht.has
theorem TrR.count {σ : MSt} {root : Int} {cs : List Pr} {bs : List Int} (h : TrR σ root cs bs) : bs.length ≤ 2 * cs.length := by
 rcases h with ⟨_, _, rfl⟩ | ⟨h, ht⟩
 ·simp
 ·exact ht.count1
theorem TrR.keep {σ σ' : MSt} {us bs' : List Int} (hc : Chg σ σ' us bs') {root : Int} {cs : List Pr} {bs : List Int} (h : TrR σ root cs bs) (hd : ∀ x ∈ bs, x ∉ us ∨ False) : TrR σ' root cs bs := by
 rcases h with h | ⟨h, ht⟩
 ·exact .inl h
 ·exact .inr ⟨h, ht.move fun x hx => hc.frame x (ht.has x hx) (hd x hx)⟩
theorem TrR.look {σ : MSt} {root : Int} {cs : List Pr} {bs : List Int} (h : TrR σ root cs bs) (hl : cs.length ≤ 4095) (key : ByteArray) : ∃ n, n ≤ 40 ∧ Look σ key n root (lookP cs key) := by
 rcases h with ⟨rfl, rfl, _⟩ | ⟨h, ht⟩
 ·exact ⟨0, by omega, .nil⟩
 ·exact ⟨h, by have := ht.low hl; omega, ht.look ⟨by cases hq : lt key ⟨#[]⟩ with | false => rfl | true => (simp [lt, toList_eq] at hq; cases hb : key.data.toList <;> simp [hb, Op.bytesLess] at hq), fun y hy => by cases hy⟩⟩
theorem lt_empty (k : ByteArray) : lt k ⟨#[]⟩ = false := by
 cases hq : lt k ⟨#[]⟩ with
 | false => rfl
 | true => (simp [lt, toList_eq] at hq; cases hb : k.data.toList <;> simp [hb, Op.bytesLess] at hq)
def TreeTo (σ : MSt) (bs : List Int) (cs : List Pr) (n : Nat) (σ' : MSt) (b : Int) : Prop := ∃ bs', TrR σ' b cs bs' ∧ Chg σ σ' bs bs' ∧ Pk σ σ' bs n
theorem tree_eg {σ : MSt} {root : Int} {cs : List Pr} {bs : List Int} (hT : TrR σ root cs bs) (hn : bs.Nodup) (hl : cs.length ≤ 4090) (t : Nat) (mp : VS) (S : Nat → Prop) (key : ByteArray) (hks : key.size ≤ 128) (g : Nat) (cb : Array Value) (F : List Pr → List Pr) (vs : List (Nat × ByteArray)) (hent : ∀ args w, (callFunc g args).run Tryz.prog w = .ok (.enter g args) w) (hf : EditC g cb F vs) (hF : LocF F key)
  (W : World) (h : Inv σ S mp W) (ht : TreeAt W t mp root 0) (hst : ¬ S t) (hbx : Boxes W S vs) : EG t mp root key g cb σ S (¬ Room σ bs (cs.length + 1)) (TreeTo σ bs (F cs) (cs.length + 1)) W := by
 have hFl := hF.len cs
 rcases hT with ⟨rfl, rfl, rfl⟩ | ⟨h', hT⟩
 ·have ok : Nd.Ok ⟨F [], [], []⟩ := ⟨fun p hp => by
   rcases hF.mem _ List.Pairwise.nil p hp with h | h
   ·cases h
   ·exact h.2, by simp, by simp, rfl, by simp, by simp at hFl; show (F []).length ≤ 2000; omega, by simp⟩
  simp only [List.length_nil] at hFl
  refine (edit_zero t mp 0 0 0 σ S key ⟨#[]⟩ g cb F vs hent hf W h ht hst hbx ok).mono ?_
  rintro e w1 (⟨v, ps, zs, σ', S', rfl, p2, p3, p4, p5, p6⟩ | ⟨hno, hg⟩)
  rotate_left
  ·refine .inr ⟨fun hR => ?_, hg⟩
   unfold Room at hR; simp [nh] at hR; unfold Nd.room at hno; simp only [if_true] at hno; omega
  obtain ⟨m, bs', q1, q2⟩ := spr_pcs p3 (lo := ⟨#[]⟩) (hi := none) (h := 0) (cs := F []) (bs := []) ok ⟨rfl, rfl, hF.rise _ List.Pairwise.nil, fun p hp => ⟨lt_empty _, fun y hy => by cases hy⟩, rfl⟩ p4 h.cln List.nodup_nil (by simp) hks (by unfold Nd.room; simp only [if_true]; omega)
  refine .inl ⟨v, S', rfl, p6, ?_⟩
  have ht1 := ht.step hst p6
  refine (grow_any t mp 0 0 σ' v ps 0 m (F []) bs' _ S' w1 p5 ht1.1 ht1.2 p2.isSl q1 (q2.nd List.nodup_nil) (by simpa using hFl)).mono ?_
  rintro e2 w2 (⟨b, σ2, S2, bs2, rfl, r1, r2, rk, r3, r4⟩ | ⟨hno, hg⟩)
  rotate_left
  ·exact .inr ⟨fun hR => hno (q2.room hR), hg.after (Step.refl _ _) q2.H q2.most⟩
  exact .inl ⟨b, σ2, S2, rfl, r3, r4, bs2, r1, q2.trans r2, Pk.trans (fun L r t => puts_tk p3 ok p4 (by unfold RoomL at r; simp [nh] at r; unfold Nd.room; simp only [if_true]; omega) t) q2 rk⟩
 ·have hh := hT.low (by omega)
  refine (edit_any t mp root 0 key g cb F vs hent hf hF hks h' σ S root 0 ⟨#[]⟩ ⟨#[]⟩ none cs bs W h ht hst hbx hT hn ⟨lt_empty _, fun y hy => by cases hy⟩ (by omega) (by omega) (Nat.zero_le _)).mono ?_
  rintro e w1 (⟨v, ps, σ', S', bs', m, rfl, p2, q1, q2, qk, p5, p6⟩ | hg)
  rotate_left
  ·exact .inr hg
  refine .inl ⟨v, S', rfl, p6, ?_⟩
  have ht1 := ht.step hst p6
  refine (grow_any t mp root 0 σ' v ps h' m (F cs) bs' _ S' w1 p5 ht1.1 ht1.2 p2.isSl q1 (q2.nd hn) hFl).mono ?_
  rintro e2 w2 (⟨b, σ2, S2, bs2, rfl, r1, r2, rk, r3, r4⟩ | ⟨hno, hg⟩)
  rotate_left
  ·exact .inr ⟨fun hR => hno (q2.room hR), hg.after (Step.refl _ _) q2.H q2.most⟩
  exact .inl ⟨b, σ2, S2, rfl, r3, r4, bs2, r1, q2.trans r2, qk.trans q2 rk⟩
def GoodKV (key value : ByteArray) : Prop := (1 ≤ key.size ∧ key.size ≤ 128) ∧ value.size ≤ 64
theorem put_editC (kb vb : Nat) (key value : ByteArray) : EditC 113 #[.pointer (some ⟨kb, 0, none⟩), .pointer (some ⟨vb, 0, none⟩)] (fun ps => insP ps key value) [(kb, key), (vb, value)] := by
 intro nb B nd S w hsub hbx hn hr hl
 exact put11_any kb vb nb B key value nd S w hsub (hbx (kb, key) (by simp)).1 (hbx (vb, value) (by simp)).1 (hbx (kb, key) (by simp)).2 (hbx (vb, value) (by simp)).2 hn hr hl
theorem put_tree (t : Nat) (mp : VS) (root : Int) (σ : MSt) (S : Nat → Prop) (cs : List Pr) (bs : List Int) (key value : ByteArray) (w : World) (h : Inv σ S mp w) (ht : TreeAt w t mp root 0) (hst : ¬ S t) (hT : TrR σ root cs bs) (hn : bs.Nodup) (hl : cs.length ≤ 4090) (hg : GoodKV key value) :
  Calls Tryz.prog 62 #[.pointer (some ⟨t, 0, none⟩), .string key, .string value] w fun e w' => (e = .returned (.int .i64 0) ∧ ChgPost t mp S (TreeTo σ bs (insP cs key value) (cs.length + 1)) w w') ∨ (e = .returned (.int .i64 12) ∧ LostPost t mp root σ S (¬ Room σ bs (cs.length + 1)) w w') := by
 refine put_via t mp root σ S _ _ key value w h.sub ht hst hg.1.1 hg.1.2 hg.2 fun W kb vb hbW hbx => ?_
 exact tree_eg hT hn hl t mp S key hg.1.2 _ _ (fun ps => insP ps key value) [(kb, key), (vb, value)] (fun _ _ => by kernel_rfl) (put_editC kb vb key value) (ins_locF key value hg.1.2 hg.2) W (h.below hbW) ((hbW.block t (Array.getElem?_eq_some_iff.1 ht).1).trans ht) hst hbx
theorem get_tree (t : Nat) (mp : VS) (root : Int) (σ : MSt) (S : Nat → Prop) (cs : List Pr) (bs : List Int) (key : ByteArray) (w : World) (h : Inv σ S mp w) (ht : TreeAt w t mp root 0) (hT : TrR σ root cs bs) (hl : cs.length ≤ 4090) (hg : 1 ≤ key.size ∧ key.size ≤ 128) :
  Calls Tryz.prog 67 #[.pointer (some ⟨t, 0, none⟩), .string key] w fun e w' => e = .returned (.tuple #[.string ((lookP cs key).getD ⟨#[]⟩), .bool (lookP cs key).isSome, .int .i64 0]) ∧ Below w.heap.size w w' := by
 obtain ⟨n, hn40, hlk⟩ := hT.look (by omega) key
 exact get_any t mp root σ S key _ w h ht hg.1 hg.2 n hn40 hlk
theorem scan_tree (t : Nat) (mp : VS) (root : Int) (σ : MSt) (S : Nat → Prop) (cs : List Pr) (bs : List Int) (key : ByteArray) (most : Int) (w : World) (h : Inv σ S mp w) (ht : TreeAt w t mp root 0) (hT : TrR σ root cs bs) (hl : cs.length ≤ 4090) :
  Calls Tryz.prog 70 #[.pointer (some ⟨t, 0, none⟩), .string key, .int .i64 most] w fun e w' => ∃ v, e = .returned (.tuple #[v, .int .i64 0]) ∧ OwnSl w' S w.heap.size 127 2 v ((cs.drop (posAt cs key)).take most.toNat).length (prCells ((cs.drop (posAt cs key)).take most.toNat)) ∧ Below w.heap.size w w' := by
 by_cases hm : most ≤ 0
 ·refine (scan_none t mp root key most w ht (.inr hm)).mono ?_
  rintro e w' ⟨rfl, hb⟩
  refine ⟨_, rfl, ?_, hb⟩
  rw [show most.toNat = 0 from by omega, List.take_zero]
  exact OwnSl.nil _ _ _ _ _
 ·rcases hT with ⟨rfl, rfl, _⟩ | ⟨h', hT⟩
  ·refine (scan_none t mp 0 key most w ht (.inl rfl)).mono ?_
   rintro e w' ⟨rfl, hb⟩
   refine ⟨_, rfl, ?_, hb⟩
   rw [List.drop_nil, List.take_nil]
   exact OwnSl.nil _ _ _ _ _
  ·exact scan_any t mp root σ S key most _ h' w h ht (by have := hT.top; omega) (by omega) (by have := hT.low (by omega); omega) hT.walk (by simp only [List.length_drop]; omega)
def Fo (σ : MSt) (h : Nat) : List Int → List Int → Prop
 | [], bs => bs = []
 | b :: L, bs => ∃ lo hi c x bs', TrM σ h 2 lo hi b c x ∧ Fo σ h L bs' ∧ bs = x ++ bs'
theorem Fo.append {σ : MSt} {h : Nat} : ∀ {L M : List Int} {x y : List Int}, Fo σ h L x → Fo σ h M y → Fo σ h (L ++ M) (x ++ y)
 | [], _, _, _, h1, h2 => by obtain rfl := h1; exact h2
 | b :: L, _, _, _, ⟨lo, hi, c, x, bs', h1, h2, rfl⟩, hM => ⟨lo, hi, c, x, _, h1, Fo.append h2 hM, List.append_assoc _ _ _⟩
theorem RowL.fo {σ : MSt} {h : Nat} {hi : Option ByteArray} : ∀ {l : List (ByteArray × Int)} {cs : List Pr} {bs : List Int}, RowL (TrM σ h 2) hi l cs bs → Fo σ h (l.map (·.2)) bs
 | [], _, _, ⟨_, e⟩ => e
 | (k, _) :: _, _, _, ⟨c, _, x, bs', h1, h2, _, e⟩ => ⟨k, _, c, x, bs', h1, RowL.fo h2, e⟩
inductive BL (σ : MSt) : Nat → List Int → List Int → Prop
 | done : BL σ 0 [] []
 | step {n : Nat} {L : List Int} {nds : List Nd} {T : List Int} : L ≠ [] → nds.length = L.length → (∀ i (h1 : i < L.length) (h2 : i < nds.length), Blk σ L[i] nds[i]) → BL σ n (nds.flatMap (·.kids)) T → BL σ (n + 1) L (L ++ T)
theorem BL.le {σ : MSt} {n : Nat} {L T : List Int} (h : BL σ n L T) : L.length ≤ T.length := by
 cases h with
 | done => simp
 | step _ _ _ _ => simp
theorem Fo.zero {σ : MSt} : ∀ {L bs : List Int}, Fo σ 0 L bs → ∃ nds : List Nd, nds.length = L.length ∧ (∀ i (h1 : i < L.length) (h2 : i < nds.length), Blk σ L[i] nds[i]) ∧ nds.flatMap (·.kids) = [] ∧ bs = L
 | [], _, h => ⟨[], rfl, fun i h1 => absurd h1 (by simp), rfl, h⟩
 | b :: L, _, ⟨lo, hi, c, x, bs', ⟨nd, h1, _, h3, _, _, _, _, h8⟩, h2, e⟩ => by
  obtain ⟨nds, q1, q2, q3, rfl⟩ := Fo.zero h2
  subst e h8
  refine ⟨nd :: nds, by simp [q1], fun i i1 i2 => ?_, by rw [List.flatMap_cons, h3, q3]; rfl, rfl⟩
  cases i with
  | zero => exact h1
  | succ i => exact q2 i (by simpa using i1) (by simpa using i2)
theorem Fo.succ {σ : MSt} {h : Nat} : ∀ {L bs : List Int}, Fo σ (h + 1) L bs → ∃ (nds : List Nd) (bs' : List Int), nds.length = L.length ∧ (∀ i (h1 : i < L.length) (h2 : i < nds.length), Blk σ L[i] nds[i]) ∧ Fo σ h (nds.flatMap (·.kids)) bs' ∧ (L ++ bs').Perm bs ∧ (L ≠ [] → nds.flatMap (·.kids) ≠ [])
 | [], _, h => ⟨[], [], rfl, fun i h1 => absurd h1 (by simp), rfl, by obtain rfl := h; exact List.Perm.refl _, fun h => absurd rfl h⟩
 | b :: L, _, ⟨lo, hi, c, x, bs', ⟨nd, x', h1, ho, hk, _, e1, h6⟩, h2, e⟩ => by
  obtain ⟨nds, y, q1, q2, q3, q4, _⟩ := Fo.succ h2
  subst e e1
  obtain ⟨b0, l, e0, _, e3⟩ := zip_lows ho.kk hk lo
  have hf : Fo σ h nd.kids x' := by
   have := h6.fo
   unfold Nd.row at this
   rw [e0] at this
   rw [e3]
   exact this
  refine ⟨nd :: nds, x' ++ y, by simp [q1], fun i i1 i2 => ?_, by rw [List.flatMap_cons]; exact hf.append q3, ?_, fun _ => by rw [List.flatMap_cons]; intro h0; exact hk (List.append_eq_nil_iff.1 h0).1⟩
  ·cases i with
   | zero => exact h1
   | succ i => exact q2 i (by simpa using i1) (by simpa using i2)
  ·have p1 : (L ++ (x' ++ y)).Perm (x' ++ (L ++ y)) := by
    rw [← List.append_assoc, ← List.append_assoc]
    exact List.Perm.append_right _ List.perm_append_comm
   exact (p1.trans (List.Perm.append_left _ q4)).cons b
theorem Fo.bl {σ : MSt} : ∀ {h : Nat} {L bs : List Int}, L ≠ [] → Fo σ h L bs → ∃ T, BL σ (h + 1) L T ∧ T.Perm bs
 | 0, L, bs, hL, hf => by
  obtain ⟨nds, q1, q2, q3, rfl⟩ := hf.zero
  refine ⟨bs ++ [], .step hL q1 q2 (by rw [q3]; exact .done), by rw [List.append_nil]⟩
 | h + 1, L, bs, hL, hf => by
  obtain ⟨nds, bs', q1, q2, q3, q4, q5⟩ := hf.succ
  obtain ⟨T, r1, r2⟩ := Fo.bl (q5 hL) q3
  exact ⟨L ++ T, .step hL q1 q2 r1, (List.Perm.append_left _ r2).trans q4⟩
theorem TrR.bl {σ : MSt} {root : Int} {cs : List Pr} {bs : List Int} (h : TrR σ root cs bs) (hl : cs.length ≤ 4095) : ∃ n T, n ≤ 12 ∧ BL σ n (if root = 0 then [] else [root]) T ∧ T.Perm bs := by
 rcases h with ⟨rfl, _, rfl⟩ | ⟨h, ht⟩
 ·exact ⟨0, [], by omega, .done, List.Perm.refl _⟩
 ·have hr := ht.top
  have hlow := ht.low hl
  obtain ⟨T, h1, h2⟩ := Fo.bl (L := [root]) (by simp) (show Fo σ h [root] (bs ++ []) from ⟨_, _, _, _, _, ht, rfl, rfl⟩)
  rw [List.append_nil] at h2
  exact ⟨h + 1, T, by omega, by rw [if_neg (by omega)]; exact h1, h2⟩
def srtI (T : List Int) : List Int := T.mergeSort fun x y => decide (x ≤ y)
theorem srtI_len (T : List Int) : (srtI T).length = T.length := List.length_mergeSort _
theorem srtI_rise {T : List Int} (h : T.Nodup) : (srtI T).Pairwise (· < ·) := by
 have h1 : (srtI T).Pairwise fun a b => decide (a ≤ b) = true := List.pairwise_mergeSort (fun a b c h1 h2 => by simp at *; omega) (fun a b => by simp; omega) T
 have h2 : (srtI T).Nodup := (List.mergeSort_perm T _).nodup_iff.2 h
 exact (h1.and h2).imp fun {a b} ⟨h1, h2⟩ => by have := of_decide_eq_true h1; omega
theorem srtI_mem {T : List Int} (x : Int) : x ∈ srtI T ↔ x ∈ T := (List.mergeSort_perm T _).mem_iff
theorem sort_own (v : Value) (T : List Int) (w : World) (S : Nat → Prop) (B : Nat) (h : OwnSl w S B 3 1 v T.length (T.map (.int .i64))) (hl : T.length ≤ 100000) (hB : B ≤ w.heap.size) :
  Calls Tryz.prog 80 #[v] w fun e w' => e = .returned (.tuple #[]) ∧ OwnSl w' S B 3 1 v (srtI T).length ((srtI T).map (.int .i64)) ∧ Below B w w' := by
 obtain ⟨⟨hxl, hr⟩, hn⟩ := h
 rcases hr with ⟨rfl, h0⟩ | ⟨g, cap, cur, rfl, hb, hg, h1, h2, h3, h4⟩
 ·refine (Any.slices_Sort_int_none sortLays none 0 w).mono ?_
  rintro e w' ⟨rfl, rfl⟩
  have hT : T = [] := List.eq_nil_of_length_eq_zero h0
  subst hT
  refine ⟨rfl, ?_, Below.refl _ _⟩
  have : srtI [] = [] := List.eq_nil_of_length_eq_zero (srtI_len [])
  rw [this]
  exact OwnSl.nil _ _ _ _ _
 ·have hH : Go.Sort.Holds (Value.int .i64) w g 0 T.toArray := holds_of_blockI hg (by rw [← h4, Nat.mul_one])
  refine (Any.slices_Sort_int sortLays g 0 cap T w hH (Array.getElem?_eq_some_iff.1 hg).1 (by omega)).mono ?_
  rintro e w' ⟨rfl, n, os, rfl⟩
  have hgb := grownBy_sortedI (w := w) (g := g) (n := n) (os := os) (srtI T).toArray
  refine ⟨rfl, ⟨?_, hn⟩, ⟨hgb.os, hgb.tape, hgb.output, hgb.size, fun k hk => hgb.block k (Nat.lt_of_lt_of_le hk hB) (fun e => by have := Option.some.inj e; omega)⟩⟩
  have := ownsRow_sortedI (w := w) (base := B) (n := n) (os := os) (ts := srtI T) (srtI_len T) hb hg h1 h2 h3
  rw [srtI_len]
  exact this
theorem flatK_take (nds : List Nd) (k : Nat) (h : k < nds.length) : (nds.take (k + 1)).flatMap (·.kids) = (nds.take k).flatMap (·.kids) ++ nds[k].kids := by
 rw [List.take_succ_eq_append_getElem h, List.flatMap_append, List.flatMap_cons, List.flatMap_nil, List.append_nil]
theorem flatK_le (nds : List Nd) (k : Nat) : ((nds.take k).flatMap (·.kids)).length ≤ (nds.flatMap (·.kids)).length := by
 have : (nds.take k).flatMap (·.kids) ++ (nds.drop k).flatMap (·.kids) = nds.flatMap (·.kids) := by rw [← List.flatMap_append, List.take_append_drop]
 rw [← this]; simp
theorem blocks_zero (t : Nat) (mp : VS) (S : Nat → Prop) (w : World) (ht : TreeAt w t mp 0 0) :
  Calls Tryz.prog 77 #[.pointer (some ⟨t, 0, none⟩)] w fun e w' => ∃ v, e = .returned (.tuple #[v, .int .i64 0]) ∧ OwnSl w' S w.heap.size 3 1 v (srtI []).length ((srtI []).map (.int .i64)) ∧ Below w.heap.size w w' := by
 obtain ⟨_, c1, _, _, _, _, hlt⟩ := cells3 ht
 go_enter Tryz.func77, Tryz.ntmps77
 go_wp2_with (first
  | (go_at_call 107; go_must ((refine (usable_any t mp 0 0 _ ht).mono ?_); rintro e w1 ⟨rfl, hw⟩; subst w1)))
 go_loopw [5, 6, 7, 8, 10, 11, 12] (fun o l _ _ _ _ _ wr => o = .slice none 0 0 ∧ l = .slice none 0 0 ∧ Below w.heap.size w wr) (fun _ _ _ _ _ _ _ _ => 0)
 case atStart => exact ⟨rfl, rfl, below_one w _⟩
 case round =>
  obtain ⟨rfl, rfl, hb⟩ := hrel
  go_wp2_with (first
   | (go_at_call 80; go_must ((refine (sort_own (.slice none 0 0) [] _ S w.heap.size (OwnSl.nil _ _ _ _ _) (by simp) hb.size).mono ?_); rintro e w2 ⟨rfl, ho, hb2⟩)))
  go_ret2
  exact ⟨_, rfl, ho, hb.trans hb2⟩
theorem blocks_some (t : Nat) (mp : VS) (root : Int) (σ : MSt) (S : Nat → Prop) (w : World) (h : Inv σ S mp w) (ht : TreeAt w t mp root 0) (hr : root ≠ 0) (n : Nat) (T : List Int) (hn : n ≤ 12) (hB : BL σ n [root] T) (hl : T.length ≤ 9000) :
  Calls Tryz.prog 77 #[.pointer (some ⟨t, 0, none⟩)] w fun e w' => ∃ v, e = .returned (.tuple #[v, .int .i64 0]) ∧ OwnSl w' S w.heap.size 3 1 v (srtI T).length ((srtI T).map (.int .i64)) ∧ Below w.heap.size w w' := by
 obtain ⟨_, c1, _, _, _, _, hlt⟩ := cells3 ht
 have hsub := h.sub
 have hr0 : (root == 0) = false := by simpa using hr
 have HB := Lib.hid hB; clear hB
 have h0 : OwnSl (w.alloc (.cells #[.int .i64 root] 3)) S w.heap.size 3 1 (.slice (some ⟨w.heap.size, 0, none⟩) 1 1) 1 [.int .i64 root] := own_new (w := w) (S := S) (B := w.heap.size) (e := 3) (k := 1) [.int .i64 root] 1 1 rfl rfl (Nat.le_refl _) (by simp [maxLen]) (Nat.le_refl _) hsub
 go_enter Tryz.func77, Tryz.ntmps77
 go_wp2_with (first
  | (go_at_call 107; go_must ((refine (usable_any t mp root 0 _ ht).mono ?_); rintro e w1 ⟨rfl, hw⟩; subst w1)))
 go_loopw [5, 6, 7, 8, 10, 11, 12] (fun o l x _ _ _ _ wr => ∃ (O L T' : List Int) (d m : Nat), x = .int .i64 d ∧ d + m ≤ 12 ∧ OwnSl wr S w.heap.size 3 1 o O.length (O.map (.int .i64)) ∧ OwnSl wr S w.heap.size 3 1 l L.length (L.map (.int .i64)) ∧ BL σ m L T' ∧ O ++ T' = T ∧ Below w.heap.size w wr) (fun _ _ x _ _ _ _ _ => 13 - (intOf x).toNat)
 case atStart => exact ⟨[], [root], T, 0, n, rfl, by omega, OwnSl.nil _ _ _ _ _, h0, HB.out, rfl, below_one w _⟩
 case round =>
  clear h0
  obtain ⟨O, L, T', d, m, rfl, hdm, hO, hL, hBL, hT, hbel⟩ := hrel
  have hlen : O.length + T'.length ≤ 9000 := by rw [← List.length_append, hT]; exact hl
  cases hBL with
  | done =>
   rw [List.append_nil] at hT
   have HT := Lib.hid hT; clear hT
   obtain ⟨ao, c, rfl, _, _, _, _⟩ := IsSl.form hL.isSl
   go_wp2_with (first
    | (go_at_call 80; go_must ((refine (sort_own _ O _ S w.heap.size hO (by omega) hbel.size).mono ?_); rintro e w2 ⟨rfl, ho, hb2⟩)))
   go_ret2
   rw [HT.out] at ho
   exact ⟨_, rfl, ho, hbel.trans hb2⟩
  | @step m _ nds T2 hne hnl hblk hB2 =>
   have HBK := Lib.hid hblk; clear hblk
   have HB2 := Lib.hid hB2; clear hB2
   have HT := Lib.hid hT; clear hT
   have hle2 := HB2.out.le
   have hnle := flatK_le nds
   have HNL := Lib.hid hnle; clear hnle
   rw [List.length_append] at hlen
   obtain ⟨ao, c, rfl, _, _, _, _⟩ := IsSl.form hL.isSl
   obtain ⟨oo, oc, rfl, _, _, _, _⟩ := IsSl.form hO.isSl
   have hLp : 0 < L.length := List.length_pos_iff.2 hne
   have hLp' : (0 : Int) < (L.length : Int) := by omega
   clear hne
   have hd40 : (d : Int) ≤ 40 := by omega
   obtain ⟨wo, rfl⟩ : ∃ x : World, x = wr := ⟨_, rfl⟩
   go_wp2_with fail
   go_loopw [8, 10, 11, 12, 35] (fun v _ _ _ i wk => ∃ k : Nat, k ≤ L.length ∧ i = .int .i64 k ∧ OwnSl wk S wo.heap.size 3 1 v ((nds.take k).flatMap (·.kids)).length (((nds.take k).flatMap (·.kids)).map (.int .i64)) ∧ Below wo.heap.size wo wk) (fun _ _ _ _ i _ => L.length - (intOf i).toNat)
   case atStart => exact ⟨0, by omega, rfl, OwnSl.nil _ _ _ _ _, Below.refl _ _⟩
   case round =>
    obtain ⟨k, hk, rfl, hV, hbk⟩ := hrel
    have hbw := hbel.trans (hbk.mono hbel.size)
    obtain ⟨Fk, hFk⟩ : ∃ F, F = (nds.take k).flatMap (·.kids) := ⟨_, rfl⟩
    rw [← hFk] at hV
    obtain ⟨vo, vc, rfl, _, _, _, _⟩ := IsSl.form hV.isSl
    by_cases hkl : k < L.length
    ·have hkn : k < nds.length := by omega
     have hb := HBK.out k hkl hkn
     obtain ⟨pb, po, rfl, d1⟩ := IsInts.at (zs := L) (hL.isSl.below hbk) rfl k hkl
     have hpb := World.block_lt_of_cell? wr _ d1
     have hkli : (k : Int) < (L.length : Int) := by omega
     have hNk := HNL.out (k + 1)
     rw [flatK_take nds k hkn, ← hFk, List.length_append] at hNk
     have hFT := flatK_take nds k hkn
     rw [← hFk] at hFT
     clear hFk
     have HFT := Lib.hid hFT; clear hFT
     have hIr := h.below hbw
     have htr : TreeAt wr t mp root 0 := (hbw.block t hlt).trans ht
     go_wp2_with (first
      | (go_at_call 117; go_must ((refine (load_any t mp root 0 L[k] d σ S nds[k] _ hIr htr hb hd40).mono ?_); rintro e w1 ⟨nb, rfl, hn1, hb1⟩; refine Stop.of ?_)))
     refine Stop.on ?_
     obtain ⟨_, v0, v1, v2, hbn, _, _, hk2⟩ := hn1.isNode
     obtain ⟨_, _, e2, _, _, _, hl3⟩ := cells3 hbn
     have hsrc := IsSl.src (P := Tryz.prog) hk2 Tryz.underlying133 (one_ints _)
     obtain ⟨ko, kc, rfl, _, _, _, _⟩ := IsSl.form hk2
     have hV1 := hV.below hb1
     have hbk1 := hbk.trans (hb1.mono hbk.size)
     have hsub1 : ∀ g, S g → g < w1.heap.size := fun g hg => Nat.lt_of_lt_of_le (hsub g hg) (Nat.le_trans hbw.size hb1.size)
     go_wp2_with (first
      | (at_builtin; (refine wpList_app rfl (.tmp 49) (.tmp 53) 133 133 rfl S wo.heap.size 3 1 8 _ Tryz.underlying133 info_int rfl (.slice vo Fk.length vc) Fk.length _ rfl hV1 (.slice ko nds[k].kids.length kc) nds[k].kids.length _ rfl hsrc hsub1 hbk1.size (by unfold maxLen; omega) (by omega) ?_); go_must (intro ao6 c6 w6 hown6 hk6 hb6 hd6; refine Stop.of ?_)))
     refine Stop.on ?_
     go_wp2_with fail
     go_roundw
     case rel => exact ⟨k + 1, by omega, by go_num, by rw [HFT.out, List.length_append, List.map_append]; exact hown6, hbk1.trans hb6⟩
     case measure => simp [intOf]; omega
    ·have hke : k = L.length := by omega
     subst hke
     rw [← hnl, List.take_length] at hFk
     have HFK := Lib.hid hFk; clear hFk
     have hfl : Fk.length ≤ 9000 := by rw [HFK.out]; omega
     have hsrc := IsSl.src (P := Tryz.prog) (hL.isSl.below hbk) Tryz.underlying133 (one_ints _)
     have hsub1 : ∀ g, S g → g < wr.heap.size := fun g hg => Nat.lt_of_lt_of_le (hsub g hg) hbw.size
     have hOr := hO.below hbk
     clear hk hkl
     have hle3 : (nds.flatMap (·.kids)).length ≤ 9000 := by omega
     have hbg := hbw.size
     go_wp2_with (first
      | (at_builtin; (refine wpList_app rfl (.tmp 56) (.tmp 57) 133 133 rfl S w.heap.size 3 1 8 _ Tryz.underlying133 info_int rfl (.slice oo O.length oc) O.length _ rfl hOr (.slice ao L.length c) L.length _ rfl hsrc hsub1 hbg (by unfold maxLen; omega) (by omega) ?_); go_must (intro ao7 c7 w7 hown7 hk7 hb7 hd7; refine Stop.of ?_)))
     refine Stop.on ?_
     have hV7 := hV.keep (w' := w7) (S' := S) fun g hg' hl' hs => ⟨hk7.block g hl' (fun e => by
      have a := hV.lo g hg'
      have b := (hO.1.lt g e).2
      omega), hs⟩
     go_wp2_with fail
     go_roundw
     case rel => exact ⟨O ++ L, nds.flatMap (·.kids), T2, d + 1, m, by go_num, by omega, by rw [List.length_append, List.map_append]; exact hown7, by rw [← HFK.out]; exact hV7.base hbel.size, HB2.out, by rw [List.append_assoc, HT.out], hbw.trans hb7⟩
     case measure => simp [intOf]; omega
def runB (r : Nat × Nat) : List Nat := (List.range r.2).map (r.1 + ·)
def runsB (rs : List (Nat × Nat)) : List Nat := rs.flatMap runB
theorem runsB_cons (r : Nat × Nat) (rs : List (Nat × Nat)) : runsB (r :: rs) = runB r ++ runsB rs := rfl
theorem runsB_append (a b : List (Nat × Nat)) : runsB (a ++ b) = runsB a ++ runsB b := by simp [runsB]
theorem runB_length (r : Nat × Nat) : (runB r).length = r.2 := by simp [runB]
def addR (rs : List (Nat × Nat)) (b : Nat) : List (Nat × Nat) :=
 match rs.getLast? with
 | some r => if r.1 + r.2 = b ∧ r.2 < 255 then rs.dropLast ++ [(r.1, r.2 + 1)] else rs ++ [(b, 1)]
 | none => [(b, 1)]
theorem runB_succ (f n : Nat) : runB (f, n + 1) = runB (f, n) ++ [f + n] := by simp [runB, List.range_succ]
theorem runsB_addR (rs : List (Nat × Nat)) (b : Nat) : runsB (addR rs b) = runsB rs ++ [b] := by
 unfold addR
 split
 ·rename_i r hr
  obtain ⟨l, rfl⟩ := List.getLast?_eq_some_iff.1 hr
  split
  ·rename_i h
   rw [List.dropLast_concat, runsB_append, runsB_append, List.append_assoc]
   congr 1
   obtain ⟨f, n⟩ := r
   show runB (f, n + 1) ++ [] = (runB (f, n) ++ []) ++ [b]
   have h1 : f + n = b := h.1
   rw [runB_succ, h1]; simp
  ·rw [runsB_append]; simp [runsB, runB]
 ·rename_i hr
  rw [List.getLast?_eq_none_iff] at hr
  subst hr
  simp [runsB, runB]
def RunsOk (rs : List (Nat × Nat)) : Prop := ∀ r ∈ rs, 1 ≤ r.2 ∧ r.2 ≤ 255 ∧ r.1 + r.2 ≤ 65536
theorem RunsOk.add {rs : List (Nat × Nat)} (h : RunsOk rs) (b : Nat) (hb : b < 65536) : RunsOk (addR rs b) := by
 unfold addR
 split
 ·rename_i r hr
  obtain ⟨l, rfl⟩ := List.getLast?_eq_some_iff.1 hr
  split
  ·rename_i hc
   rw [List.dropLast_concat]
   intro q hq
   rcases List.mem_append.1 hq with hq | hq
   ·exact h q (List.mem_append_left _ hq)
   ·have := h r (by simp)
    rw [List.mem_singleton.1 hq]
    show 1 ≤ r.2 + 1 ∧ r.2 + 1 ≤ 255 ∧ r.1 + (r.2 + 1) ≤ 65536
    omega
  ·intro q hq
   rcases List.mem_append.1 hq with hq | hq
   ·exact h q hq
   ·rw [List.mem_singleton.1 hq]
    show 1 ≤ 1 ∧ 1 ≤ 255 ∧ b + 1 ≤ 65536
    omega
 ·intro q hq
  rw [List.mem_singleton.1 hq]
  show 1 ≤ 1 ∧ 1 ≤ 255 ∧ b + 1 ≤ 65536
  omega
theorem RunsOk.le {rs : List (Nat × Nat)} (h : RunsOk rs) : rs.length ≤ (runsB rs).length := by
 induction rs with
 | nil => exact Nat.zero_le _
 | cons r rs ih =>
  have h1 := h r (List.mem_cons_self ..)
  have := ih (fun q hq => h q (List.mem_cons_of_mem _ hq))
  rw [runsB_cons, List.length_append, runB_length, List.length_cons]; omega
def encRun (r : Nat × Nat) : List UInt8 := [UInt8.ofNat r.1, UInt8.ofNat (r.1 / 256), UInt8.ofNat r.2]
def encR (size : Nat) (rs : List (Nat × Nat)) : List UInt8 := [177, UInt8.ofNat size, UInt8.ofNat (size / 256), UInt8.ofNat rs.length] ++ rs.flatMap encRun
theorem encR_length (size : Nat) (rs : List (Nat × Nat)) : (encR size rs).length = 4 + 3 * rs.length := by
 have : (rs.flatMap encRun).length = 3 * rs.length := by
  induction rs with
  | nil => rfl
  | cons r rs ih => rw [List.flatMap_cons, List.length_append, ih, List.length_cons]; simp [encRun]; omega
 unfold encR
 rw [List.length_append, this]
 simp only [List.length_cons, List.length_nil]
def runCells (rs : List (Nat × Nat)) : List Value := rs.flatMap fun r => [.int .i64 r.1, .int .i64 r.2]
theorem runCells_append (a b : List (Nat × Nat)) : runCells (a ++ b) = runCells a ++ runCells b := by simp [runCells]
theorem runCells_at (rs : List (Nat × Nat)) (i : Nat) (h : i < rs.length) : (runCells rs)[i * 2]? = some (.int .i64 rs[i].1) ∧ (runCells rs)[i * 2 + 1]? = some (.int .i64 rs[i].2) := by
 induction rs generalizing i with
 | nil => simp at h
 | cons r rs ih =>
  cases i with
  | zero => exact ⟨rfl, rfl⟩
  | succ i =>
   have := ih i (by simpa using h)
   rw [show (i + 1) * 2 = i * 2 + 2 by omega]
   exact this
structure ListAt (w : World) (S : Nat → Prop) (B lb size : Nat) (rs : List (Nat × Nat)) (v : Value) : Prop where
 obj : w.heap[lb]? = some (.cells #[.int .i64 size, v] 179 (0, 0))
 own : OwnSl w S B 238 2 v rs.length (runCells rs)
 lo : B ≤ lb
 ns : ¬ S lb
theorem ListAt.below {w w' : World} {S : Nat → Prop} {B lb size : Nat} {rs : List (Nat × Nat)} {v : Value} (h : ListAt w S B lb size rs v) (hb : Below w.heap.size w w') : ListAt w' S B lb size rs v :=
 ⟨(hb.block lb (Array.getElem?_eq_some_iff.1 h.obj).1).trans h.obj, h.own.below hb, h.lo, h.ns⟩
theorem ListAt.step {w w' : World} {S S' : Nat → Prop} {B lb size : Nat} {rs : List (Nat × Nat)} {v : Value} (h : ListAt w S B lb size rs v) (hs : Step S S' w w') : ListAt w' S' B lb size rs v := by
 have hl := (Array.getElem?_eq_some_iff.1 h.obj).1
 exact ⟨(hs.1.block lb hl h.ns).trans h.obj, h.own.step hs, h.lo, fun x => (hs.2 lb x).elim h.ns (fun y => absurd hl (Nat.not_lt.2 y))⟩
theorem runsB_take (rs : List (Nat × Nat)) (k : Nat) (h : k < rs.length) : runsB (rs.take (k + 1)) = runsB (rs.take k) ++ runB rs[k] := by
 rw [List.take_succ_eq_append_getElem h, runsB_append]; simp [runsB]
theorem runsB_take_le (rs : List (Nat × Nat)) (k : Nat) : (runsB (rs.take k)).length ≤ (runsB rs).length := by
 have : runsB rs = runsB (rs.take k) ++ runsB (rs.drop k) := by rw [← runsB_append, List.take_append_drop]
 rw [this, List.length_append]; omega
def ints (l : List Nat) : List Value := l.map fun (b : Nat) => Value.int .i64 (b : Int)
theorem ints_append (a b : List Nat) : ints (a ++ b) = ints a ++ ints b := by simp [ints]
theorem ints_eq (l : List Nat) : ints l = (l.map fun (b : Nat) => (b : Int)).map (.int .i64) := by simp [ints]
def IsRuns (w : World) (S : Nat → Prop) (v : Value) (rs : List (Nat × Nat)) : Prop := IsSl w S 2 v rs.length (runCells rs)
theorem IsRuns.at {w : World} {S : Nat → Prop} {v : Value} {rs : List (Nat × Nat)} {ao : Option Addr} {n c : Nat} (h : IsRuns w S v rs) (hv : v = .slice ao n c) (i : Nat) (hi : i < rs.length) :
  ∃ b o, ao = some ⟨b, o, none⟩ ∧ w.cell? ⟨b, o + i * 2, none⟩ = some (.int .i64 rs[i].1) ∧ w.cell? ⟨b, o + i * 2 + 1, none⟩ = some (.int .i64 rs[i].2) := by
 obtain ⟨h1, h2⟩ := runCells_at rs i hi
 obtain ⟨ao', c', rfl, _, _, _, _, _, h6⟩ := h
 cases hv
 obtain ⟨b, o, rfl, hc⟩ := h6 (i * 2) _ h1
 obtain ⟨b', o', e, hc'⟩ := h6 (i * 2 + 1) _ h2
 cases e
 exact ⟨b, o, rfl, hc, by rw [Nat.add_assoc]; exact hc'⟩
theorem bblocks (lb size : Nat) (rs : List (Nat × Nat)) (lv : Value) (B : Nat) (S : Nat → Prop) (w : World) (h : ListAt w S B lb size rs lv) (hS : ∀ g, S g → g < w.heap.size) (ok : RunsOk rs) (hl : (runsB rs).length ≤ 1000) :
  Calls Tryz.prog 127 #[.pointer (some ⟨lb, 0, none⟩)] w fun e w' => ∃ v, e = .returned v ∧ OwnSl w' S w.heap.size 3 1 v (runsB rs).length (ints (runsB rs)) ∧ Below w.heap.size w w' := by
 obtain ⟨ao, c, rfl, n0, m0, _, _⟩ := IsSl.form h.own.isSl
 have hsl := h.own.isSl
 have c0 : w.cell? ⟨lb, 0, none⟩ = some (.int .i64 size) := by simp [World.cell?, h.obj]
 have c1 : w.cell? ⟨lb, 1, none⟩ = some (.slice ao rs.length c) := by simp [World.cell?, h.obj]
 have hlt : lb < w.heap.size := (Array.getElem?_eq_some_iff.1 h.obj).1
 have hrl := ok.le
 have HOK := Lib.hid ok
 have HSL := Lib.hid hsl
 clear h hsl ok
 go_enter Tryz.func127, Tryz.ntmps127
 go_wp2_with fail
 go_loopw [3, 5, 6, 12, 18] (fun o _ _ i _ wr => ∃ k : Nat, k ≤ rs.length ∧ i = .int .i64 k ∧ OwnSl wr S w.heap.size 3 1 o (runsB (rs.take k)).length (ints (runsB (rs.take k))) ∧ Below w.heap.size w wr) (fun _ _ _ i _ _ => rs.length - (intOf i).toNat)
 case atStart => exact ⟨0, by omega, rfl, by rw [List.take_zero]; exact OwnSl.nil _ _ _ _ _, Below.refl _ _⟩
 case round =>
  obtain ⟨k, hk, rfl, ho, hb⟩ := hrel
  have htl := runsB_take_le rs k
  obtain ⟨F, hF⟩ : ∃ F, Hid (F = runsB (rs.take k)) := ⟨_, Lib.hid rfl⟩
  rw [← hF.out] at ho htl
  obtain ⟨oo, oc, rfl, _, _, _, _⟩ := IsSl.form ho.isSl
  by_cases hkl : k < rs.length
  ·have x1 : (k : Int) < (rs.length : Int) := by omega
   obtain ⟨pb, po, rfl, d1, d2⟩ := IsRuns.at HSL.out rfl k hkl
   have d1' := (hb.cell (p := ⟨pb, po + k * 2, none⟩) (World.block_lt_of_cell? w _ d1)).trans d1
   have d2' := (hb.cell (p := ⟨pb, po + k * 2 + 1, none⟩) (World.block_lt_of_cell? w _ d2)).trans d2
   have hpb := World.block_lt_of_cell? wr _ d1'
   have HT := Lib.hid (runsB_take rs k hkl)
   have htl2 := runsB_take_le rs (k + 1)
   rw [HT.out, ← hF.out, List.length_append, runB_length] at htl2
   have hrk := HOK.out rs[k] (List.getElem_mem hkl)
   obtain ⟨f, hf⟩ : ∃ f, f = rs[k].1 := ⟨_, rfl⟩
   obtain ⟨n, hn⟩ : ∃ n, n = rs[k].2 := ⟨_, rfl⟩
   have hrun : rs[k] = (f, n) := by rw [hf, hn]
   rw [← hf, ← hn] at hrk
   rw [← hf] at d1'
   rw [← hn] at d2' htl2
   have HRUN := Lib.hid hrun
   clear hf hn hrun d1 d2
   obtain ⟨wo, rfl⟩ : ∃ x : World, x = wr := ⟨_, rfl⟩
   have hbA := below_one wo (.cells #[.int .i64 f, .int .i64 n] 238)
   have hA : (wo.alloc (.cells #[.int .i64 f, .int .i64 n] 238)).heap[wo.heap.size]? = some (.cells #[.int .i64 f, .int .i64 n] 238 (0, 0)) := heap_alloc_new wo _
   go_wp2_with fail
   generalize hwA : wo.alloc (.cells #[.int .i64 f, .int .i64 n] 238) = wA at hbA hA ⊢
   have hqn : wo.heap.size < wA.heap.size := (Array.getElem?_eq_some_iff.1 hA).1
   go_loopw [3, 6, 18] (fun o _ i wk => ∃ j : Nat, j ≤ n ∧ i = .int .i64 j ∧ OwnSl wk S w.heap.size 3 1 o (F.length + j) (ints (F ++ runB (f, j))) ∧ Below w.heap.size w wk ∧ wk.heap[wo.heap.size]? = some (.cells #[.int .i64 f, .int .i64 n] 238 (0, 0))) (fun _ _ i _ => n - (intOf i).toNat)
   case atStart => exact ⟨0, by omega, rfl, by simpa [runB] using ho.below hbA, hb.trans (hbA.mono hb.size), hA⟩
   case round =>
    obtain ⟨j, hj, rfl, hoj, hbj, hAj⟩ := hrel
    obtain ⟨qo, qc, rfl, _, _, _, _⟩ := IsSl.form hoj.isSl
    have r0 : wr.cell? ⟨wo.heap.size, 0, none⟩ = some (.int .i64 f) := by simp [World.cell?, hAj]
    have hAl := (Array.getElem?_eq_some_iff.1 hAj).1
    by_cases hjn : j < n
    ·have y1 : (j : Int) < (n : Int) := by omega
     have HR := Lib.hid (runB_succ f j)
     have hS6 : ∀ g, S g → g < wr.heap.size := fun g hg => Nat.lt_of_lt_of_le (hS g hg) hbj.size
     have hbg := hbj.size
     go_wp2_with (first
      | (at_builtin; go_must ((refine wpList_app rfl (.tmp 21) (.tmp 26) 133 133 rfl S w.heap.size 3 1 8 _ Tryz.underlying133 info_int rfl (.slice qo (F.length + j) qc) _ _ rfl (hoj.below (below_one _ _)) _ 1 _ rfl (src_new [.int .i64 ((f : Int) + (j : Int))] _ 1 1 1 (by simp) Tryz.underlying133 rfl ?_) (sub_alloc hS6 _) ?_ ?_ ?_ ?_); (focus (simp [Value.oneCell'])); (focus (simp only [World.size_alloc]; omega)); (focus (unfold maxLen; omega)); (focus omega); intro ao1 c1 w1 hown1 hk1 hb1 hd1)))
     go_roundw
     case rel =>
      have hne : (Value.slice qo (F.length + j) qc).ownBlock ≠ some wo.heap.size := hoj.ne hAj (by decide)
      refine ⟨j + 1, by omega, by go_num, ?_, (hbj.trans (below_one wr _ |>.mono hbj.size)).trans hb1, ?_⟩
      ·rw [HR.out, ← List.append_assoc, ints_append]
       have e : ints [f + j] = [.int .i64 ((f : Int) + (j : Int))] := by simp [ints]
       rw [e]
       exact hown1
      ·exact (hk1.block wo.heap.size (by simp only [World.size_alloc]; omega) hne).trans ((Below.heap_alloc _ _ _ (by omega)).trans hAj)
     case measure => simp [intOf]; omega
    ·have hjn2 : j = n := by omega
     subst hjn2
     go_wp2_with fail
     go_roundw
     case rel => exact ⟨k + 1, by omega, by go_num, by rw [HT.out, HRUN.out, ← hF.out, List.length_append, runB_length]; exact hoj, hbj⟩
     case measure => simp [intOf]; omega
  ·have : k = rs.length := by omega
   subst this
   rw [List.take_length] at hF
   have x1 : ¬ (rs.length : Int) < (rs.length : Int) := by omega
   go_wp2_with fail
   go_ret
   exact ⟨_, rfl, by rw [← hF.out]; exact ho, hb⟩
theorem u8_nat (n : Nat) : ((UInt8.ofNat n).toNat : Int) = IntKind.u8.wrap (n : Int) := by
 rw [UInt8.toNat_ofNat', IntKind.wrap_u8]; omega
theorem u8_div (n : Nat) : IntKind.u8.wrap ((n / 256 : Nat) : Int) = IntKind.u8.wrap ((n : Int) / 256) := by
 congr 1
def encRs (size : Nat) (rs : List (Nat × Nat)) (len : Nat) : List UInt8 := [177, UInt8.ofNat size, UInt8.ofNat (size / 256), UInt8.ofNat len] ++ rs.flatMap encRun
theorem encRs_cells0 (size len : Nat) : bCells (encRs size [] len) = [.int .u8 177, .int .u8 (IntKind.u8.wrap (size : Int)), .int .u8 (IntKind.u8.wrap ((size : Int) / 256)), .int .u8 (IntKind.u8.wrap (len : Int))] := by
 simp only [encRs, List.flatMap_nil, List.append_nil, bCells, List.map_cons, List.map_nil, u8_nat, u8_div]
 rfl
theorem encRs_succ (size len : Nat) (rs : List (Nat × Nat)) (k : Nat) (h : k < rs.length) (hf : rs[k].1 < 65536) (hn : rs[k].2 < 256) : bCells (encRs size (rs.take (k + 1)) len) = bCells (encRs size (rs.take k) len) ++ [.int .u8 ((rs[k].1 : Int) % 256), .int .u8 ((rs[k].1 : Int) / 256), .int .u8 (rs[k].2 : Int)] := by
 have e : encRs size (rs.take (k + 1)) len = encRs size (rs.take k) len ++ encRun rs[k] := by
  unfold encRs
  rw [List.take_succ_eq_append_getElem h, List.flatMap_append]; simp
 rw [e, bCells_append]
 simp only [encRun, bCells, List.map_cons, List.map_nil, u8_nat, IntKind.wrap_u8]
 have e1 : ((rs[k].1 / 256 : Nat) : Int) % 256 = (rs[k].1 : Int) / 256 := by omega
 have e2 : (rs[k].2 : Int) % 256 = (rs[k].2 : Int) := by omega
 rw [e1, e2]
theorem bencode (lb size : Nat) (rs : List (Nat × Nat)) (lv : Value) (B : Nat) (S : Nat → Prop) (w : World) (h : ListAt w S B lb size rs lv) (hS : ∀ g, S g → g < w.heap.size) (hsz : size ≤ 65535) (ok : RunsOk rs) (hl : rs.length ≤ 1000) :
  Calls Tryz.prog 106 #[.pointer (some ⟨lb, 0, none⟩)] w fun e w' => ∃ v, e = .returned v ∧ OwnSl w' S w.heap.size 5 1 v (encR size rs).length (bCells (encR size rs)) ∧ Below w.heap.size w w' := by
 obtain ⟨ao, c, rfl, n0, m0, _, _⟩ := IsSl.form h.own.isSl
 have hsl := h.own.isSl
 have c0 : w.cell? ⟨lb, 0, none⟩ = some (.int .i64 size) := by simp [World.cell?, h.obj]
 have c1 : w.cell? ⟨lb, 1, none⟩ = some (.slice ao rs.length c) := by simp [World.cell?, h.obj]
 have hlt : lb < w.heap.size := (Array.getElem?_eq_some_iff.1 h.obj).1
 have HOK := Lib.hid ok
 have HSL := Lib.hid hsl
 have HC := Lib.hid (show ∀ W : World, Below w.heap.size w W → W.cell? ⟨lb, 0, none⟩ = some (.int .i64 size) ∧ W.cell? ⟨lb, 1, none⟩ = some (.slice ao rs.length c) ∧ lb < W.heap.size from fun W hW =>
  ⟨(hW.cell (p := ⟨lb, 0, none⟩) hlt).trans c0, (hW.cell (p := ⟨lb, 1, none⟩) hlt).trans c1, Nat.lt_of_lt_of_le hlt hW.size⟩)
 clear h hsl ok
 have q1 : IntKind.i64.wrap ((size : Int) / 256) = ((size / 256 : Nat) : Int) := by rw [IntWalk.i64_in _ (by omega)]; omega
 go_enter Tryz.func106, Tryz.ntmps106
 go_wp2_with fail
 refine wp_region_ord (fun W => Below w.heap.size w W) (fun i => !([17].contains i)) [0, 1, 2, 3, 4, 5, 6, 7, 8, 9, 10, 11, 12, 13, 14, 15, 16, 17, 18] rfl (by kernel_rfl) ((Below.refl _ w).drew) ?_
 repeat ((refine ord_q (v := ?_) rfl rfl (fun _ _ _ h => h) rfl (fun W hW => ?_) ?_); rotate_left; (focus ((try dsimp only at hW); obtain ⟨r0, r1, r2⟩ := HC.out W hW; (go_simp; first | done | with_reducible rfl))); (try simp only [Act.put, List.setIfInBounds_toArray, List.set_cons_zero, List.set_cons_succ]))
 refine ord_e rfl rfl rfl ?_; intro K hK; go_simp
 have hb0 : Below w.heap.size w (w.alloc (.cells #[.int .u8 177, .int .u8 (IntKind.u8.wrap (size : Int)), .int .u8 (IntKind.u8.wrap ((size : Int) / 256)), .int .u8 (IntKind.u8.wrap (rs.length : Int))] 5)).drew := (below_one w _).drew
 have hn0 : OwnSl (w.alloc (.cells #[.int .u8 177, .int .u8 (IntKind.u8.wrap (size : Int)), .int .u8 (IntKind.u8.wrap ((size : Int) / 256)), .int .u8 (IntKind.u8.wrap (rs.length : Int))] 5)).drew S w.heap.size 5 1 (.slice (some ⟨w.heap.size, 0, none⟩) 4 4) 4 (bCells (encRs size (rs.take 0) rs.length)) := by
  rw [List.take_zero, encRs_cells0]
  exact (own_new (w := w) (S := S) (B := w.heap.size) (e := 5) (k := 1) _ 4 4 rfl rfl (Nat.le_refl _) (by simp [maxLen]) (Nat.le_refl _) hS).drew
 generalize (w.alloc (.cells #[.int .u8 177, .int .u8 (IntKind.u8.wrap (size : Int)), .int .u8 (IntKind.u8.wrap ((size : Int) / 256)), .int .u8 (IntKind.u8.wrap (rs.length : Int))] 5)).drew = w1 at hb0 hn0 ⊢
 refine hK.out _ _ hb0 ?_
 repeat ((refine ord_q (v := ?_) rfl rfl (fun _ _ _ h => h) rfl (fun W hW => ?_) ?_); rotate_left; (focus ((try dsimp only at hW); obtain ⟨r0, r1, r2⟩ := HC.out W hW; (go_simp; first | done | with_reducible rfl))); (try simp only [Act.put, List.setIfInBounds_toArray, List.set_cons_zero, List.set_cons_succ]))
 refine ord_nil ?_
 obtain ⟨s0, s1, s2⟩ := HC.out _ hb0
 clear q1
 generalize IntKind.u8.wrap (size : Int) = z1
 generalize IntKind.u8.wrap ((size : Int) / 256) = z2
 generalize IntKind.u8.wrap (rs.length : Int) = z3
 generalize (size : Int) / 256 = z4
 go_wp2_with fail
 go_loopw [3, 5, 29] (fun v _ i wr => ∃ k : Nat, k ≤ rs.length ∧ i = .int .i64 k ∧ OwnSl wr S w.heap.size 5 1 v (4 + 3 * k) (bCells (encRs size (rs.take k) rs.length)) ∧ Below w.heap.size w wr) (fun _ _ i _ => rs.length - (intOf i).toNat)
 case atStart => exact ⟨0, by omega, rfl, hn0, hb0⟩
 case round =>
  obtain ⟨k, hk, rfl, ho, hb⟩ := hrel
  obtain ⟨oo, oc, rfl, _, _, _, _⟩ := IsSl.form ho.isSl
  by_cases hkl : k < rs.length
  ·have x1 : (k : Int) < (rs.length : Int) := by omega
   obtain ⟨pb, po, rfl, d1, d2⟩ := IsRuns.at HSL.out rfl k hkl
   have d1' := (hb.cell (p := ⟨pb, po + k * 2, none⟩) (World.block_lt_of_cell? w _ d1)).trans d1
   have d2' := (hb.cell (p := ⟨pb, po + k * 2 + 1, none⟩) (World.block_lt_of_cell? w _ d2)).trans d2
   have hpb := World.block_lt_of_cell? wr _ d1'
   have hS6 : ∀ g, S g → g < wr.heap.size := fun g hg => Nat.lt_of_lt_of_le (hS g hg) hb.size
   have hrk := HOK.out rs[k] (List.getElem_mem hkl)
   have HT := Lib.hid (encRs_succ size rs.length rs k hkl (by omega) (by omega))
   clear d1 d2 s0 s1
   have hbg := hb.size
   go_wp2_with (first
    | (at_builtin; go_must ((refine wpList_app rfl (.tmp 33) (.tmp 44) 86 86 rfl S w.heap.size 5 1 1 (.int .u8 0) Tryz.underlying86 info_u8 rfl (.slice oo (4 + 3 * k) oc) _ _ rfl (ho.below (below_two _ _ _)) _ 3 _ rfl (src_new [_, _, _] _ 1 3 3 (by simp) Tryz.underlying86 rfl ?_) (sub_alloc (sub_alloc hS6 _) _) ?_ ?_ ?_ ?_); (focus (simp [Value.oneCell'])); (focus (simp only [World.size_alloc]; omega)); (focus (unfold maxLen; omega)); (focus omega); intro ao1 c1 w1 hown1 hk1 hb1 hd1)))
   go_roundw
   case rel => exact ⟨k + 1, by omega, by go_num, by rw [HT.out]; exact hown1, (hb.trans (below_two wr _ _ |>.mono hb.size)).trans hb1⟩
   case measure => simp [intOf]; omega
  ·have : k = rs.length := by omega
   subst this
   rw [List.take_length] at ho
   have he : encRs size rs rs.length = encR size rs := rfl
   have hle := encR_length size rs
   have x1 : ¬ (rs.length : Int) < (rs.length : Int) := by omega
   rw [he] at ho
   have HLE := Lib.hid hle; clear hle he
   go_wp2_with fail
   go_ret
   exact ⟨_, rfl, by rw [HLE.out]; exact ho, hb⟩
theorem info_run : (Tryz.prog.info? 238).map (fun i => (i.zero, i.size, i.bytes)) = some (some (.agg #[.int .i64 0, .int .i64 0]), 2, 16) := by kernel_rfl
theorem addR_more (rs : List (Nat × Nat)) (m b : Nat) (hm : rs.length = m + 1) (hm' : m < rs.length) (h : ¬ (rs[m].1 + rs[m].2 = b ∧ rs[m].2 < 255)) : addR rs b = rs ++ [(b, 1)] := by
 have hl : rs.getLast? = some rs[m] := by rw [List.getLast?_eq_getElem?, show rs.length - 1 = m by omega, List.getElem?_eq_getElem (by omega)]
 unfold addR
 rw [hl]
 simp only
 rw [if_neg h]
theorem addR_same (rs : List (Nat × Nat)) (m b : Nat) (hm : rs.length = m + 1) (hm' : m < rs.length) (h : rs[m].1 + rs[m].2 = b ∧ rs[m].2 < 255) : addR rs b = rs.set m (rs[m].1, rs[m].2 + 1) := by
 have hl : rs.getLast? = some rs[m] := by rw [List.getLast?_eq_getElem?, show rs.length - 1 = m by omega, List.getElem?_eq_getElem (by omega)]
 unfold addR
 rw [hl]
 simp only
 rw [if_pos h]
 apply List.ext_getElem?
 intro i
 rw [List.getElem?_set]
 by_cases hi : m = i
 ·subst hi
  rw [if_pos rfl, if_pos (by omega), List.getElem?_append_right (by simp; omega)]
  simp [hm]
 ·rw [if_neg hi]
  rcases Nat.lt_or_ge i m with h1 | h1
  ·rw [List.getElem?_append_left (by simp; omega), List.getElem?_dropLast, if_pos (by omega)]
  ·rw [List.getElem?_eq_none (by simp; omega), List.getElem?_eq_none (by omega)]
theorem runCells_set (rs : List (Nat × Nat)) (m n : Nat) (hm : m < rs.length) : (runCells rs).set (m * 2 + 1) (.int .i64 n) = runCells (rs.set m (rs[m].1, n)) := by
 induction rs generalizing m with
 | nil => simp at hm
 | cons r rs ih =>
  cases m with
  | zero => rfl
  | succ m =>
   have := ih m (by simpa using hm)
   rw [show (m + 1) * 2 + 1 = (m * 2 + 1) + 2 by omega]
   show [Value.int .i64 (r.1 : Int), Value.int .i64 (r.2 : Int)] ++ (runCells rs).set (m * 2 + 1) (.int .i64 n) = _
   rw [this]; rfl
theorem ListAt.keep {w w' : World} {S : Nat → Prop} {B lb size : Nat} {rs : List (Nat × Nat)} {v : Value} (h : ListAt w S B lb size rs v) (hb : ∀ g, g = lb ∨ v.ownBlock = some g → w'.heap[g]? = w.heap[g]?) : ListAt w' S B lb size rs v :=
 ⟨(hb lb (.inl rfl)).trans h.obj, h.own.keep fun g hg _ hs => ⟨hb g (.inr hg), hs⟩, h.lo, h.ns⟩
theorem listPut {w w' : World} {S : Nat → Prop} {B lb size n : Nat} {rs' : List (Nat × Nat)} {v v' : Value} {xs : List Value} (hobj : w.heap[lb]? = some (.cells #[.int .i64 size, v] 179 (0, 0))) (hown : OwnSl w S B 238 2 v n xs) (lo : B ≤ lb) (ns : ¬ S lb) (hk : Keep (fun g => v.ownBlock = some g) w w') (hb : Below B w w') (ho : OwnSl w' S B 238 2 v' rs'.length (runCells rs')) :
  ListAt (w'.setCell ⟨lb, 1, none⟩ v') S B lb size rs' v' ∧ Below B w (w'.setCell ⟨lb, 1, none⟩ v') := by
 have hlt := (Array.getElem?_eq_some_iff.1 hobj).1
 have hn : w'.heap[lb]? = _ := (hk.block lb hlt (hown.ne hobj (by decide))).trans hobj
 have hk5 : Keep (· = lb) w' (w'.setCell ⟨lb, 1, none⟩ v') := Keep.setCell (M := (· = lb)) (p := ⟨lb, 1, none⟩) (Keep.refl _ _) (.inr rfl) _
 exact ⟨⟨by simp [World.setCell, Array.getElem?_modify, hn], ho.keep fun g hg hl hs => ⟨hk5.block g hl (fun e => ho.ne hn (by decide) (by rw [hg, e])), hs⟩, lo, ns⟩, hb.setCell (by exact lo) _⟩
theorem badd (lb size b : Nat) (rs : List (Nat × Nat)) (lv : Value) (B : Nat) (S : Nat → Prop) (w : World) (h : ListAt w S B lb size rs lv) (hS : ∀ g, S g → g < w.heap.size) (ok : RunsOk rs) (hl : rs.length ≤ 1000) (hb : b ≤ 65535) :
  Calls Tryz.prog 105 #[.pointer (some ⟨lb, 0, none⟩), .int .i64 b] w fun e w' => e = .returned (.tuple #[]) ∧ (∃ v, ListAt w' S B lb size (addR rs b) v) ∧ Below B w w' := by
 obtain ⟨ao, c, rfl, n0, m0, _, _⟩ := IsSl.form h.own.isSl
 have hobj := h.obj
 have hown := h.own
 have hlo := h.lo
 have hns := h.ns
 have hlt : lb < w.heap.size := (Array.getElem?_eq_some_iff.1 h.obj).1
 have HOK := Lib.hid ok
 have hBw : B ≤ w.heap.size := Nat.le_trans h.lo (Nat.le_of_lt hlt)
 have HS := Lib.hid hS
 clear h ok hS
 obtain ⟨N, hN⟩ : ∃ N, rs.length = N := ⟨_, rfl⟩
 rw [hN] at hobj hown n0 hl
 have c1 : w.cell? ⟨lb, 1, none⟩ = some (.slice ao N c) := by simp [World.cell?, hobj]
 have HSL := Lib.hid hown.isSl
 have HOW := Lib.hid hown
 have HOB := Lib.hid hobj
 have HRC := Lib.hid (show runCells (rs ++ [(b, 1)]) = runCells rs ++ [.int .i64 b, .int .i64 1] by rw [runCells_append]; rfl)
 have HLEN := Lib.hid hN
 clear hobj hown
 cases N with
 | zero =>
  have HADD := Lib.hid (show addR rs b = rs ++ [(b, 1)] by rw [List.eq_nil_of_length_eq_zero hN]; rfl)
  clear hN
  go_enter Tryz.func105, Tryz.ntmps105
  go_wp2_with fail
  go_quiet (fail)
  obtain ⟨w1, HW1⟩ : ∃ w1 : World, Hid (w.drewN nq = w1) := ⟨_, Lib.hid rfl⟩
  have hb1 : Below w.heap.size w w1 := by rw [← HW1.out]; exact below_drewN (Below.refl _ _) _
  rw [HW1.out]
  have HO1 := Lib.hid (HOW.out.below hb1)
  have HB1 := Lib.hid ((hb1.block lb hlt).trans HOB.out)
  have e0 : w1.cell? ⟨lb, 1, none⟩ = some (.slice ao 0 c) := (hb1.cell (p := ⟨lb, 1, none⟩) hlt).trans c1
  have ef : w1.frozen? ⟨lb, 1, none⟩ = false := by have := HB1.out; simp [World.frozen?, this]
  have el : lb < w1.heap.size := Nat.lt_of_lt_of_le hlt hb1.size
  have hS1 : ∀ g, S g → g < w1.heap.size := fun g hg => Nat.lt_of_lt_of_le (HS.out g hg) hb1.size
  have hBg := Nat.le_trans hBw hb1.size
  clear c1
  go_wp2_with (first
   | (at_builtin; go_must ((refine wpList_app rfl (.tmp 60) (.tmp 63) 177 177 rfl S B 238 2 16 _ Tryz.underlying177 info_run rfl (.slice ao 0 c) _ _ rfl (HO1.out.below (below_one _ _)) _ 1 _ rfl (src_new [.int .i64 b, .int .i64 1] _ 2 1 1 (by simp) Tryz.underlying177 rfl ?_) (sub_alloc hS1 _) ?_ ?_ ?_ ?_); (focus (simp [Value.oneCell'])); (focus (simp only [World.size_alloc]; omega)); (focus (unfold maxLen; omega)); (focus omega); intro ao3 c3 w3 hown3 hk3 hb3 hd3; refine Stop.of ?_)))
  refine Stop.on ?_
  have HO2 := HO1.out.below (below_one w1 (.cells #[.int .i64 b, .int .i64 1] 238))
  have HB2 := ((below_one w1 (.cells #[.int .i64 b, .int .i64 1] 238)).block lb el).trans HB1.out
  have hn3 : w3.heap[lb]? = _ := (hk3.block lb (Array.getElem?_eq_some_iff.1 HB2).1 (HO2.ne HB2 (by decide))).trans HB2
  have g0 : w3.cell? ⟨lb, 1, none⟩ = some (.slice ao 0 c) := by have := hn3; simp only [World.cell?, this]; rfl
  have gf : w3.frozen? ⟨lb, 1, none⟩ = false := by simp [World.frozen?, hn3]
  have gl := (Array.getElem?_eq_some_iff.1 hn3).1
  have HPUT := Lib.hid (listPut (rs' := rs ++ [(b, 1)]) HB2 HO2 hlo hns hk3 hb3 (by rw [List.length_append, HLEN.out, HRC.out]; exact hown3))
  go_wp2_with fail
  go_end0
  refine ⟨rfl, ⟨_, by rw [HADD.out]; exact HPUT.out.1⟩, ?_⟩
  exact (hb1.mono hBw).trans ((below_one w1 _ |>.mono hBg).trans HPUT.out.2)
 | succ m =>
  have hm : m < rs.length := by omega
  obtain ⟨pb, po, rfl, d1, d2⟩ := IsRuns.at (rs := rs) (w := w) (S := S) (by have := HSL.out; rw [← hN] at this; exact this) rfl m hm
  have hrk := HOK.out rs[m] (List.getElem_mem hm)
  obtain ⟨gg, cc, e, _, _, hBpb, _⟩ := HOW.out.form2 (by omega)
  cases e
  rw [Nat.zero_add] at d1 d2
  obtain ⟨f, hf⟩ : ∃ f, f = rs[m].1 := ⟨_, rfl⟩
  obtain ⟨n, hn⟩ : ∃ n, n = rs[m].2 := ⟨_, rfl⟩
  rw [← hf, ← hn] at hrk
  rw [← hf] at d1
  rw [← hn] at d2
  have hpb := World.block_lt_of_cell? w _ d1
  have hpb' : pb < w.heap.size := hpb
  by_cases hc : f + n = b ∧ n < 255
  ·have HADD := Lib.hid (show addR rs b = rs.set m (f, n + 1) by rw [addR_same rs m b hN hm (by rw [← hf, ← hn]; exact hc), ← hf, ← hn])
   have HRS := Lib.hid (show (runCells rs).set (m * 2 + 1) (.int .i64 ((n + 1 : Nat) : Int)) = runCells (rs.set m (f, n + 1)) by rw [runCells_set rs m (n + 1) hm, ← hf])
   have h1' : (f : Int) + (n : Int) = (b : Int) := by omega
   have h2' : (n : Int) < 255 := by omega
   obtain ⟨cur, hrow, hcl, hct, _, hSpb, hcc, hccm⟩ := HOW.out.row
   have HROW := Lib.hid (And.intro hrow (And.intro hcl (And.intro hct (And.intro hSpb (And.intro hcc hccm)))))
   have hfz := hrow.frozen (m * 2 + 1)
   clear hf hn hN hc hrow hcl hct hSpb hcc hccm
   go_enter Tryz.func105, Tryz.ntmps105
   go_wp2_with fail
   go_quiet (fail)
   obtain ⟨w1, HW1⟩ : ∃ w1 : World, Hid (w.drewN nq = w1) := ⟨_, Lib.hid rfl⟩
   have hb1 : Below w.heap.size w w1 := by rw [← HW1.out]; exact below_drewN (Below.refl _ _) _
   rw [HW1.out]
   have hR1 : Row w1 pb 238 cur := (hb1.block pb hpb').trans HROW.out.1
   have HO1 := Lib.hid (HOW.out.below hb1)
   have HB1 := Lib.hid ((hb1.block lb hlt).trans HOB.out)
   have e0 : w1.cell? ⟨lb, 1, none⟩ = some (.slice (some ⟨pb, 0, none⟩) (m + 1) c) := (hb1.cell (p := ⟨lb, 1, none⟩) hlt).trans c1
   have e1 : w1.cell? ⟨pb, m * 2 + 1, none⟩ = some (.int .i64 n) := (hb1.cell (p := ⟨pb, m * 2 + 1, none⟩) hpb').trans d2
   have ef : w1.frozen? ⟨pb, m * 2 + 1, none⟩ = false := hR1.frozen _
   have el : lb < w1.heap.size := Nat.lt_of_lt_of_le hlt hb1.size
   have el2 : pb < w1.heap.size := Nat.lt_of_lt_of_le hpb' hb1.size
   have HR1 := Lib.hid hR1
   clear c1 d1 d2 hfz hR1
   go_wp2_with fail
   refine bodyPost_ret (results_none rfl _ _ _) rfl ?_
   have hk5 : Keep (· = pb) w1 (w1.setCell ⟨pb, m * 2 + 1, none⟩ (.int .i64 ((n : Int) + 1))) := (Keep.refl (· = pb) _).setCell (p := ⟨pb, m * 2 + 1, none⟩) (.inr rfl) _
   have hlp : ¬ lb = pb := fun e => by subst e; exact HO1.out.ne HB1.out (by decide) rfl
   refine ⟨rfl, ⟨_, by
    rw [HADD.out]
    refine ⟨(hk5.block lb el hlp).trans HB1.out, ?_, hlo, hns⟩
    have hr' : Row (w1.setCell ⟨pb, m * 2 + 1, none⟩ (.int .i64 ((n : Int) + 1))) pb 238 (cur.set (m * 2 + 1) (.int .i64 ((n : Int) + 1))) := by
     have := HR1.out
     unfold Row at this ⊢
     simp [World.setCell, Array.getElem?_modify, this]
    have := hr'.own (S := S) (B := B) (k := 2) (cap := c) (m + 1) (by simpa using HROW.out.2.1) hBpb HROW.out.2.2.2.1 HROW.out.2.2.2.2.1 HROW.out.2.2.2.2.2
    rw [List.take_set, HROW.out.2.2.1] at this
    have e9 : (runCells rs).set (m * 2 + 1) (.int .i64 ((n : Int) + 1)) = runCells (rs.set m (f, n + 1)) := HRS.out
    rw [e9] at this
    rw [List.length_set, HLEN.out]
    exact this⟩, ?_⟩
   exact (hb1.mono hBw).trans (hk5.toBelow (Nat.le_trans hBw hb1.size) (fun i hi e => absurd hBpb (by rw [← e]; exact Nat.not_le.2 hi)))
  ·have HADD := Lib.hid (show addR rs b = rs ++ [(b, 1)] from addR_more rs m b hN hm (by rw [← hf, ← hn]; exact hc))
   have hsum : ((f : Int) + (n : Int) == (b : Int)) = decide (f + n = b) := by
    by_cases h : f + n = b
    ·rw [decide_eq_true h]; simp; omega
    ·rw [decide_eq_false h]; simp; omega
   clear hf hn hN
   have e2 : w.cell? ⟨pb, m * 2, none⟩ = some (.int .i64 f) := d1
   go_enter Tryz.func105, Tryz.ntmps105
   go_wp2_with fail
   by_cases h1 : f + n = b
   ·have h2 : ¬ n < 255 := fun e => hc ⟨h1, e⟩
    have h2' : decide ((n : Int) < 255) = false := decide_eq_false (by omega)
    have h1' : (f : Int) + (n : Int) = (b : Int) := by omega
    go_quiet (fail)
    obtain ⟨w1, HW1⟩ : ∃ w1 : World, Hid (w.drewN nq = w1) := ⟨_, Lib.hid rfl⟩
    have hb1 : Below w.heap.size w w1 := by rw [← HW1.out]; exact below_drewN (Below.refl _ _) _
    rw [HW1.out]
    have HO1 := Lib.hid (HOW.out.below hb1)
    have HB1 := Lib.hid ((hb1.block lb hlt).trans HOB.out)
    have e0 : w1.cell? ⟨lb, 1, none⟩ = some (.slice (some ⟨pb, 0, none⟩) (m + 1) c) := (hb1.cell (p := ⟨lb, 1, none⟩) hlt).trans c1
    have ef : w1.frozen? ⟨lb, 1, none⟩ = false := by have := HB1.out; simp [World.frozen?, this]
    have el : lb < w1.heap.size := Nat.lt_of_lt_of_le hlt hb1.size
    have hS1 : ∀ g, S g → g < w1.heap.size := fun g hg => Nat.lt_of_lt_of_le (HS.out g hg) hb1.size
    have hBg := Nat.le_trans hBw hb1.size
    clear c1
    go_wp2_with (first
     | (at_builtin; go_must ((refine wpList_app rfl (.tmp 60) (.tmp 63) 177 177 rfl S B 238 2 16 _ Tryz.underlying177 info_run rfl (.slice (some ⟨pb, 0, none⟩) (m + 1) c) _ _ rfl (HO1.out.below (below_one _ _)) _ 1 _ rfl (src_new [.int .i64 b, .int .i64 1] _ 2 1 1 (by simp) Tryz.underlying177 rfl ?_) (sub_alloc hS1 _) ?_ ?_ ?_ ?_); (focus (simp [Value.oneCell'])); (focus (simp only [World.size_alloc]; omega)); (focus (unfold maxLen; omega)); (focus omega); intro ao3 c3 w3 hown3 hk3 hb3 hd3; refine Stop.of ?_)))
    refine Stop.on ?_
    have HO2 := HO1.out.below (below_one w1 (.cells #[.int .i64 b, .int .i64 1] 238))
    have HB2 := ((below_one w1 (.cells #[.int .i64 b, .int .i64 1] 238)).block lb el).trans HB1.out
    have hn3 : w3.heap[lb]? = _ := (hk3.block lb (Array.getElem?_eq_some_iff.1 HB2).1 (HO2.ne HB2 (by decide))).trans HB2
    have g0 : w3.cell? ⟨lb, 1, none⟩ = some (.slice (some ⟨pb, 0, none⟩) (m + 1) c) := by have := hn3; simp only [World.cell?, this]; rfl
    have gf : w3.frozen? ⟨lb, 1, none⟩ = false := by simp [World.frozen?, hn3]
    have gl := (Array.getElem?_eq_some_iff.1 hn3).1
    have HPUT := Lib.hid (listPut (rs' := rs ++ [(b, 1)]) HB2 HO2 hlo hns hk3 hb3 (by rw [List.length_append, HLEN.out, HRC.out]; exact hown3))
    go_wp2_with fail
    go_end0
    refine ⟨rfl, ⟨_, by rw [HADD.out]; exact HPUT.out.1⟩, ?_⟩
    exact (hb1.mono hBw).trans ((below_one w1 _ |>.mono hBg).trans HPUT.out.2)
   ·have h1' : ¬ (f : Int) + (n : Int) = (b : Int) := by omega
    go_quiet (fail)
    obtain ⟨w1, HW1⟩ : ∃ w1 : World, Hid (w.drewN nq = w1) := ⟨_, Lib.hid rfl⟩
    have hb1 : Below w.heap.size w w1 := by rw [← HW1.out]; exact below_drewN (Below.refl _ _) _
    rw [HW1.out]
    have HO1 := Lib.hid (HOW.out.below hb1)
    have HB1 := Lib.hid ((hb1.block lb hlt).trans HOB.out)
    have e0 : w1.cell? ⟨lb, 1, none⟩ = some (.slice (some ⟨pb, 0, none⟩) (m + 1) c) := (hb1.cell (p := ⟨lb, 1, none⟩) hlt).trans c1
    have ef : w1.frozen? ⟨lb, 1, none⟩ = false := by have := HB1.out; simp [World.frozen?, this]
    have el : lb < w1.heap.size := Nat.lt_of_lt_of_le hlt hb1.size
    have hS1 : ∀ g, S g → g < w1.heap.size := fun g hg => Nat.lt_of_lt_of_le (HS.out g hg) hb1.size
    have hBg := Nat.le_trans hBw hb1.size
    clear c1
    go_wp2_with (first
     | (at_builtin; go_must ((refine wpList_app rfl (.tmp 60) (.tmp 63) 177 177 rfl S B 238 2 16 _ Tryz.underlying177 info_run rfl (.slice (some ⟨pb, 0, none⟩) (m + 1) c) _ _ rfl (HO1.out.below (below_one _ _)) _ 1 _ rfl (src_new [.int .i64 b, .int .i64 1] _ 2 1 1 (by simp) Tryz.underlying177 rfl ?_) (sub_alloc hS1 _) ?_ ?_ ?_ ?_); (focus (simp [Value.oneCell'])); (focus (simp only [World.size_alloc]; omega)); (focus (unfold maxLen; omega)); (focus omega); intro ao3 c3 w3 hown3 hk3 hb3 hd3; refine Stop.of ?_)))
    refine Stop.on ?_
    have HO2 := HO1.out.below (below_one w1 (.cells #[.int .i64 b, .int .i64 1] 238))
    have HB2 := ((below_one w1 (.cells #[.int .i64 b, .int .i64 1] 238)).block lb el).trans HB1.out
    have hn3 : w3.heap[lb]? = _ := (hk3.block lb (Array.getElem?_eq_some_iff.1 HB2).1 (HO2.ne HB2 (by decide))).trans HB2
    have g0 : w3.cell? ⟨lb, 1, none⟩ = some (.slice (some ⟨pb, 0, none⟩) (m + 1) c) := by have := hn3; simp only [World.cell?, this]; rfl
    have gf : w3.frozen? ⟨lb, 1, none⟩ = false := by simp [World.frozen?, hn3]
    have gl := (Array.getElem?_eq_some_iff.1 hn3).1
    have HPUT := Lib.hid (listPut (rs' := rs ++ [(b, 1)]) HB2 HO2 hlo hns hk3 hb3 (by rw [List.length_append, HLEN.out, HRC.out]; exact hown3))
    go_wp2_with fail
    go_end0
    refine ⟨rfl, ⟨_, by rw [HADD.out]; exact HPUT.out.1⟩, ?_⟩
    exact (hb1.mono hBw).trans ((below_one w1 _ |>.mono hBg).trans HPUT.out.2)
theorem pcheck (d : Nat) (σ : Dk) (Sd : Nat → Prop) (n : Int) (w : World) (h : Dsk w Sd d σ) :
  Calls Tryz.prog 85 #[.pointer (some ⟨d, 0, none⟩), .int .i64 n] w fun e w' => e = .returned (.int .i64 (if n < 2 ∨ (σ.n : Int) ≤ n then 1 else 0)) ∧ w' = w := by
 have HS := Lib.hid (dsize d σ Sd w h)
 clear h
 by_cases h1 : n < 2
 ·rw [if_pos (.inl h1)]
  go_enter Tryz.func85, Tryz.ntmps85
  go_wp2_with fail
  go_ret
  exact ⟨rfl, rfl⟩
 ·by_cases h2 : (σ.n : Int) ≤ n
  ·rw [if_pos (.inr h2)]
   go_enter Tryz.func85, Tryz.ntmps85
   go_wp2_with (first
    | (go_at_call 25; go_must (refine HS.out.mono ?_; rintro e w1 ⟨rfl, hw1⟩; subst w1)))
   go_ret
   exact ⟨rfl, rfl⟩
  ·rw [if_neg (by omega)]
   go_enter Tryz.func85, Tryz.ntmps85
   go_wp2_with (first
    | (go_at_call 25; go_must (refine HS.out.mono ?_; rintro e w1 ⟨rfl, hw1⟩; subst w1)))
   go_ret
   exact ⟨rfl, rfl⟩
def Dk.wipe : Nat → Nat → Dk → Dk
 | 0, _, σ => σ
 | k + 1, i, σ => Dk.wipe k (i + 1) (σ.put i [])
theorem Dk.wipe_snoc : ∀ (k i : Nat) (σ : Dk), Dk.wipe (k + 1) i σ = (Dk.wipe k i σ).put (i + k) []
 | 0, i, σ => rfl
 | k + 1, i, σ => by
  show Dk.wipe (k + 1) (i + 1) (σ.put i []) = _
  rw [Dk.wipe_snoc k (i + 1)]
  show (Dk.wipe k (i + 1) (σ.put i [])).put (i + 1 + k) [] = (Dk.wipe k (i + 1) (σ.put i [])).put (i + (k + 1)) []
  rw [show i + 1 + k = i + (k + 1) by omega]
theorem Dk.wipe_n : ∀ (k i : Nat) (σ : Dk), (Dk.wipe k i σ).n = σ.n
 | 0, _, _ => rfl
 | k + 1, i, σ => (Dk.wipe_n k (i + 1) (σ.put i [])).trans rfl
theorem Dk.wipe_free : ∀ (k i : Nat) (σ : Dk), σ.Free → (Dk.wipe k i σ).Free
 | 0, _, _, h => h
 | k + 1, i, σ, h => Dk.wipe_free k (i + 1) (σ.put i []) (h.put i [])
theorem Dk.wipe_waits : ∀ (k i : Nat) (σ : Dk), (Dk.wipe k i σ).waits.length = σ.waits.length + k
 | 0, _, _ => rfl
 | k + 1, i, σ => by
  show (Dk.wipe k (i + 1) (σ.put i [])).waits.length = _
  rw [Dk.wipe_waits k (i + 1)]
  simp [Dk.put]
  omega
def Pg.new (n : Nat) : Pg := ⟨n, n - 1, Im.none, false⟩
theorem pager_born {w : World} {Sd Sl : Nat → Prop} {lg d : Nat} {σ : Dk} {l : Lg} (n : Nat) (h : LogAt w Sd Sl lg d σ l) (hf : l.frm = 0) (hn : l.n = n) (hfit : n < σ.n) (h2 : 2 ≤ n) :
  PgAt ((w.alloc (.map #[] 0)).alloc (.cells #[.pointer (some ⟨d, 0, none⟩), .pointer (some ⟨lg, 0, none⟩), .int .i64 n, .int .i64 ((n - 1 : Nat) : Int), .map (some w.heap.size), .pointer none, .bool false] 151)) (Three Sd Sl (fun g => g = w.heap.size ∨ g = w.heap.size + 1)) (w.heap.size + 1) d σ l (Pg.new n) (.pointer none) ∧
  Step (fun g => Sd g ∨ Sl g) (Three Sd Sl (fun g => g = w.heap.size ∨ g = w.heap.size + 1)) w ((w.alloc (.map #[] 0)).alloc (.cells #[.pointer (some ⟨d, 0, none⟩), .pointer (some ⟨lg, 0, none⟩), .int .i64 n, .int .i64 ((n - 1 : Nat) : Int), .map (some w.heap.size), .pointer none, .bool false] 151)) := by
 obtain ⟨cs, hcs⟩ : ∃ cs : Array Value, cs = #[.pointer (some ⟨d, 0, none⟩), .pointer (some ⟨lg, 0, none⟩), .int .i64 n, .int .i64 ((n - 1 : Nat) : Int), .map (some w.heap.size), .pointer none, .bool false] := ⟨_, rfl⟩
 rw [← hcs]
 have hb : Below w.heap.size w ((w.alloc (.map #[] 0)).alloc (.cells cs 151)) := below_two w _ _
 have hm : ImgAt ((w.alloc (.map #[] 0)).alloc (.cells cs 151)) w.heap.size Im.none := (ImgAt.none w).block (Below.heap_alloc _ _ _ (by simp))
 have ho : ((w.alloc (.map #[] 0)).alloc (.cells cs 151)).heap[w.heap.size + 1]? = some (.cells cs 151 (0, 0)) := by
  have := heap_alloc_new (w.alloc (.map #[] 0)) (.cells cs 151)
  rwa [World.size_alloc] at this
 have hs : ((w.alloc (.map #[] 0)).alloc (.cells cs 151)).heap.size = w.heap.size + 2 := by simp
 have hdl : ∀ g, Sd g → g < w.heap.size := h.dk.sub
 have hll : ∀ g, Sl g → g < w.heap.size := h.lg.sub
 refine ⟨⟨Sd, Sl, _, lg, w.heap.size, ⟨h.below hb, ⟨hf, hn.symm, ?_, by rw [hn]; exact hfit, Im.Ok.none _⟩, fun g hg => ?_, fun g hg e => ?_, fun g hg e => ?_, .inr rfl, .inl rfl, ?_, hm⟩, fun _ => Iff.rfl⟩, (Keep.of_below hb _), fun g hg => ?_⟩
 ·show n - 1 + 1 = l.n; omega
 ·omega
 ·have := hdl g e; omega
 ·have := hll g e; omega
 ·rw [ho, hcs]; rfl
 ·rcases hg with hg | hg | hg
  ·exact .inl (.inl hg)
  ·exact .inl (.inr hg)
  ·right; omega
theorem pmake (d : Nat) (σ : Dk) (Sd : Nat → Prop) (n : Nat) (w : World) (h : Dsk w Sd d σ) (hf : σ.Free) (h1 : 2 ≤ n) (h2 : n < σ.n) (hcap : σ.waits.length ≤ 50000) :
  Calls Tryz.prog 48 #[.pointer (some ⟨d, 0, none⟩), .int .i64 n] w fun e w' => ∃ pg S', e = .returned (.tuple #[.pointer (some ⟨pg, 0, none⟩), .int .i64 0]) ∧
   PgAt w' S' pg d (((Dk.wipe (σ.n - n) n σ).flush.put 0 (Lg.new 0 n).markB).flush) (Lg.new 0 n) (Pg.new n) (.pointer none) ∧ Step Sd S' w w' := by
 have hck := pcheck d σ Sd n w h
 rw [if_neg (by omega)] at hck
 have HC := Lib.hid hck; clear hck
 have hi := h.ok.hi
 have HH := Lib.hid h; have HF := Lib.hid hf
 clear h hf
 go_enter Tryz.func48, Tryz.ntmps48
 go_wp2_with (first
  | (go_at_call 85; go_must (refine HC.out.mono ?_; rintro e w1 ⟨rfl, hw1⟩; subst w1)))
 go_loopw [7] (fun i wr => ∃ (k : Nat) (S1 : Nat → Prop), n + k ≤ σ.n ∧ i = .int .i64 ((n + k : Nat) : Int) ∧ Hid (Dsk wr S1 d (Dk.wipe k n σ)) ∧ Hid (Step Sd S1 w wr)) (fun i _ => σ.n - (intOf i).toNat)
 case atStart => exact ⟨0, Sd, by omega, rfl, HH, Lib.hid (Step.refl _ _)⟩
 case round =>
  obtain ⟨k, S1, hk, rfl, HD, HS⟩ := hrel
  have HSz := Lib.hid (dsize d _ S1 wr HD.out)
  rw [Dk.wipe_n] at HSz
  obtain ⟨j, HJ⟩ : ∃ j, Hid (n + k = j) := ⟨_, Lib.hid rfl⟩
  rw [HJ.out] at hk ⊢
  by_cases hlt : j < σ.n
  ·have hltI : (j : Int) < (σ.n : Int) := by omega
   have hwr := dwrite d _ S1 (j : Int) (.slice none 0 0) [] wr HD.out (IsSl.nil _ _ _) (by rw [Dk.wipe_waits]; have := HJ.out; omega)
   rw [(Dk.wipe_free k n σ HF.out).write j [] (by rw [Dk.wipe_n]; exact hlt) (by simp)] at hwr
   have HWr := Lib.hid hwr; clear hwr
   go_wp2_with (first
    | (go_at_call 25; go_must (refine HSz.out.mono ?_; rintro e w1 ⟨rfl, hw1⟩; subst w1))
    | (go_at_call 86; go_must (refine HWr.out.mono ?_; rintro e w2 ⟨rfl, S2, hD2, hs2⟩)))
   have HD2 := Lib.hid hD2; have HS2 := Lib.hid (HS.out.trans hs2); clear hD2 hs2
   go_roundw
   case rel =>
    refine ⟨k + 1, S2, by have := HJ.out; omega, by have := HJ.out; go_num, Lib.hid ?_, HS2⟩
    rw [Dk.wipe_snoc, HJ.out]
    exact HD2.out
   case measure => simp [intOf]; omega
  ·obtain rfl : j = σ.n := by omega
   have hkk : k = σ.n - n := by have := HJ.out; omega
   rw [hkk] at HD
   have HM := Lib.hid (wmake d _ S1 0 n wr HD.out (Dk.wipe_free _ n σ HF.out) h1 (by rw [Dk.wipe_n]; omega) (by rw [Dk.wipe_waits]; omega))
   have hmk : ∀ w : World, (Instr.makeMap 149 none).run Tryz.prog w = .ok (.map (some w.heap.size)) (w.alloc (.map #[] 0)) := fun w => run_makeMap _ w
   have e1 : IntKind.i64.wrap ((n : Int) - 1) = ((n - 1 : Nat) : Int) := by rw [IntWalk.i64_in _ (by omega)]; omega
   go_wp2_with (first
    | (go_at_call 25; go_must (refine HSz.out.mono ?_; rintro e w1 ⟨rfl, hw1⟩; subst w1))
    | (go_at_call 87; go_must (refine HM.out.mono ?_; rintro e w2 ⟨lg, Sd2, Sl2, rfl, hA2, hs2⟩; refine Stop.of ?_)))
   refine Stop.on ?_
   have HA2 := Lib.hid hA2; have HS2 := Lib.hid (HS.out.trans hs2); clear hA2 hs2
   go_wp2_with fail
   go_ret2
   have hb := pager_born n HA2.out rfl rfl (by show n < (((Dk.wipe (σ.n - n) n σ).flush.put 0 (Lg.new 0 n).markB).flush).n; have : (((Dk.wipe (σ.n - n) n σ).flush.put 0 (Lg.new 0 n).markB).flush).n = (Dk.wipe (σ.n - n) n σ).n := rfl; rw [this, Dk.wipe_n]; exact h2) h1
   exact ⟨_, _, rfl, hb.1, HS2.out.trans hb.2⟩
theorem or_above (a c m t : Nat) (k : Nat) (hm : m = 2 ^ k) (ha : a < m) (ht : t = a + m * c) (hlt : t < 9223372036854775808) : bits .or .i64 (a : Int) ((m * c : Nat) : Int) = (t : Int) := by
 unfold bits
 have hb : m * c < 18446744073709551616 := by omega
 have e4 : (BitVec.ofInt 64 (a : Int) ||| BitVec.ofInt 64 ((m * c : Nat) : Int)).toNat = t := by
  rw [BitVec.ofInt_natCast, BitVec.ofInt_natCast, BitVec.toNat_or, BitVec.toNat_ofNat, BitVec.toNat_ofNat, Nat.mod_eq_of_lt (by omega), Nat.mod_eq_of_lt (by omega), Nat.or_comm]
  have := Nat.two_pow_add_eq_or_of_lt (i := k) (b := a) (by omega) c
  rw [hm, ← this, ht, hm]
  omega
 show IntKind.i64.wrap (((BitVec.ofInt 64 (a : Int) ||| BitVec.ofInt 64 ((m * c : Nat) : Int)).toNat : Nat) : Int) = t
 rw [e4, IntKind.wrap_i64]
 omega
theorem index_at (l : List UInt8) (i : Nat) (b : UInt8) (h : l[i]? = some b) (W : World) : (Instr.index 9 (.string (strOf l)) (.int .i64 (i : Int))).run Tryz.prog W = .ok (.int .u8 (b.toNat : Int)) W := by
 obtain ⟨hi, hb⟩ := List.getElem?_eq_some_iff.1 h
 have hs : (strOf l).size = l.length := by show l.toArray.size = _; simp
 rw [run_index_string W 9 (strOf l) .i64 (i : Int) Tryz.underlying9, dif_pos ⟨by omega, by rw [hs]; omega⟩]
 have : (strOf l)[(i : Int).toNat]'(by rw [hs]; omega) = b := by
  show l.toArray[(i : Int).toNat]'(by simpa using hi) = b
  simp [hb]
 rw [this]
theorem flatRun_at (rs : List (Nat × Nat)) (k : Nat) (h : k < rs.length) : (rs.flatMap encRun)[3 * k]? = some (UInt8.ofNat rs[k].1) ∧ (rs.flatMap encRun)[3 * k + 1]? = some (UInt8.ofNat (rs[k].1 / 256)) ∧ (rs.flatMap encRun)[3 * k + 2]? = some (UInt8.ofNat rs[k].2) := by
 induction rs generalizing k with
 | nil => simp at h
 | cons r rs ih =>
  cases k with
  | zero => exact ⟨rfl, rfl, rfl⟩
  | succ k =>
   have := ih k (by simpa using h)
   rw [show 3 * (k + 1) = 3 * k + 1 + 1 + 1 by omega, show 3 * k + 1 + 1 + 1 + 1 = (3 * k + 1) + 1 + 1 + 1 by omega, show 3 * k + 1 + 1 + 1 + 2 = (3 * k + 2) + 1 + 1 + 1 by omega]
   exact this
theorem encR_at (size : Nat) (rs : List (Nat × Nat)) (rest : List UInt8) (k j : Nat) (u : UInt8) (hj : (rs.flatMap encRun)[j]? = some u) (hk : k = 4 + j) : (bCells (encR size rs ++ rest))[k]? = some (.int .u8 (u.toNat : Int)) := by
 subst hk
 have hl := (List.getElem?_eq_some_iff.1 hj).1
 unfold bCells encR
 rw [List.getElem?_map, List.append_assoc, List.getElem?_append_right (by simp), List.length_cons, List.length_cons, List.length_cons, List.length_cons, List.length_nil, Nat.zero_add, Nat.add_sub_cancel_left, List.getElem?_append_left hl, hj]
 rfl
theorem encR_head (size : Nat) (rs : List (Nat × Nat)) (rest : List UInt8) : (bCells (encR size rs ++ rest))[0]? = some (.int .u8 177) ∧ (bCells (encR size rs ++ rest))[1]? = some (.int .u8 ((UInt8.ofNat size).toNat : Int)) ∧ (bCells (encR size rs ++ rest))[2]? = some (.int .u8 ((UInt8.ofNat (size / 256)).toNat : Int)) ∧ (bCells (encR size rs ++ rest))[3]? = some (.int .u8 ((UInt8.ofNat rs.length).toNat : Int)) := ⟨rfl, rfl, rfl, rfl⟩
def chunk (t : List UInt8) (i : Nat) : List UInt8 := (t.drop (512 * i)).take 512
def nblk (n : Nat) : Nat := (n + 511) / 512
structure HeadAt (σ : MSt) (head : Nat) (size : Nat) (rs : List (Nat × Nat)) : Prop where
 lo : 2 ≤ head
 has : σ.hasB head = true
 mem : ∃ rest, σ.mem head = encR size rs ++ rest
 ok : RunsOk rs
 len : (runsB rs).length = nblk size
 s1 : 1 ≤ size
 s2 : size ≤ 49152
theorem HeadAt.runs {σ : MSt} {head size : Nat} {rs : List (Nat × Nat)} (h : HeadAt σ head size rs) : rs.length ≤ 96 ∧ (runsB rs).length ≤ 96 := by
 have h1 := h.ok.le
 have h2 := h.len
 have h3 := h.s2
 unfold nblk at h2
 omega
theorem bload (mp : VS) (σ : MSt) (S : Nat → Prop) (w : World) (head size : Nat) (rs : List (Nat × Nat)) (h : Inv σ S mp w) (hh : HeadAt σ head size rs) :
  Calls Tryz.prog 126 #[.iface 113 mp.agg, .int .i64 head] w fun e w' => ∃ lb v, e = .returned (.tuple #[.pointer (some ⟨lb, 0, none⟩), .int .i64 0]) ∧ ListAt w' S w.heap.size lb size rs v ∧ Below w.heap.size w w' := by
 have hsub := h.sub
 have hrd := read_has mp σ S w head h hh.has
 obtain ⟨rest, hmem⟩ := hh.mem
 rw [hmem] at hrd
 have hl5 : (encR size rs ++ rest).length = 512 := by
  obtain ⟨n, hn, hn2, _⟩ := MSt.hasB_nat hh.has
  rw [← hmem, hn]
  exact h.ok.len n hn2
 have HRd := Lib.hid hrd; clear hrd
 have hlo := hh.lo
 have hs1 := hh.s1
 have hs2 := hh.s2
 obtain ⟨hrl, hbl⟩ := hh.runs
 have HH := Lib.hid hh
 obtain ⟨b0, b1, b2, b3⟩ := encR_head size rs rest
 have HB := Lib.hid (And.intro b0 (And.intro b1 (And.intro b2 b3)))
 have x1 : ¬ (head : Int) < 0 := by omega
 have x2 : ((head : Int) == 0) = false := by simp; omega
 have x3 : ¬ (head : Int) = 0 := by omega
 clear hh hmem b0 b1 b2 b3
 have hm : ∀ w, (method 458 113 mp.agg "Read").run Tryz.prog w = .ok (56, .pointer (some ⟨mp.tx, 0, none⟩)) w := fun _ => by kernel_rfl
 go_enter Tryz.func126, Tryz.ntmps126
 go_wp2_with (refine HRd.out.mono ?_; rintro e w1 ⟨v, rfl, hv, hvb, hb1⟩; refine Stop.of ?_)
 refine Stop.on ?_
 have hv' := hv
 obtain ⟨ao, cp, rfl, n0, m0, _, _⟩ := IsSl.form hv'
 obtain ⟨b0, b1, b2, b3⟩ := HB.out
 obtain ⟨vb, vo, rfl, d0⟩ := IsSl.at1 hv rfl 0 _ b0
 obtain ⟨_, _, e, d1⟩ := IsSl.at1 hv rfl 1 _ b1
 cases e
 obtain ⟨_, _, e, d2⟩ := IsSl.at1 hv rfl 2 _ b2
 cases e
 obtain ⟨_, _, e, d3⟩ := IsSl.at1 hv rfl 3 _ b3
 cases e
 have u3 : ((UInt8.ofNat rs.length).toNat : Int) = (rs.length : Int) := by rw [UInt8.toNat_ofNat']; omega
 obtain ⟨lo, hlo0⟩ : ∃ lo : Nat, lo = size % 256 := ⟨_, rfl⟩
 obtain ⟨hi, hhi0⟩ : ∃ hi : Nat, hi = size / 256 := ⟨_, rfl⟩
 have u1 : ((UInt8.ofNat size).toNat : Int) = (lo : Int) := by rw [UInt8.toNat_ofNat', hlo0]
 have u2 : ((UInt8.ofNat (size / 256)).toNat : Int) = (hi : Int) := by rw [UInt8.toNat_ofNat', hhi0]; omega
 rw [u1] at d1; rw [u2] at d2; rw [u3] at d3
 have hvl : vb < w1.heap.size := World.block_lt_of_cell? w1 _ d0
 have hvw : w.heap.size ≤ vb := hvb vb rfl
 have HV := Lib.hid hv
 have hlo1 : lo < 256 := by omega
 have hhi1 : hi < 256 := by omega
 have hsz0 : size = lo + 256 * hi := by omega
 rw [Nat.add_zero] at d0
 clear b0 b1 b2 b3 u1 u2 u3 hlo0 hhi0 hv hv' hvb hm
 have y1 : (lo : Int) < 256 := by omega
 have y2 : (rs.length : Int) * 3 + 4 ≤ 512 := by omega
 obtain ⟨w2, HW2⟩ : ∃ w2 : World, Hid (w1.alloc (.cells #[.int .i64 0, .slice none 0 0] 179) = w2) := ⟨_, Lib.hid rfl⟩
 have hb2 : Below w1.heap.size w1 w2 := by rw [← HW2.out]; exact below_one w1 _
 have hL2 : w2.heap[w1.heap.size]? = some (.cells #[.int .i64 0, .slice none 0 0] 179 (0, 0)) := by rw [← HW2.out]; exact heap_alloc_new w1 _
 have D0 := (hb2.cell (p := ⟨vb, vo, none⟩) hvl).trans d0
 have D1 := (hb2.cell (p := ⟨vb, vo + 1, none⟩) hvl).trans d1
 have D2 := (hb2.cell (p := ⟨vb, vo + 2, none⟩) hvl).trans d2
 have D3 := (hb2.cell (p := ⟨vb, vo + 3, none⟩) hvl).trans d3
 have hvl2 := Nat.lt_of_lt_of_le hvl hb2.size
 have HD := Lib.hid (And.intro D0 (And.intro D1 (And.intro D2 (And.intro D3 hvl2))))
 clear d0 d1 d2 d3 D0 D1 D2 D3
 go_upto_region 11 with (fail)
 rw [HW2.out]
 obtain ⟨D0, D1, D2, D3, hvl2⟩ := HD.out
 go_wp2_with fail
 obtain ⟨lb, HLB⟩ : ∃ lb, Hid (w1.heap.size = lb) := ⟨_, Lib.hid rfl⟩
 have hlbw : w.heap.size ≤ lb := by rw [← HLB.out]; exact hb1.size
 rw [HLB.out] at hL2 ⊢
 have hlb2 : lb < w2.heap.size := (Array.getElem?_eq_some_iff.1 hL2).1
 have hlf : w2.drew.frozen? ⟨lb, 0, none⟩ = false := by show w2.frozen? _ = false; simp [World.frozen?, hL2]
 have hlc : w2.drew.cell? ⟨lb, 0, none⟩ = some (.int .i64 0) := by show w2.cell? _ = _; simp [World.cell?, hL2]
 have hlbd : lb < w2.drew.heap.size := hlb2
 have HOR := Lib.hid (kid_or lo hi size hlo1 hhi1 hsz0)
 have HSZ := Lib.hid hsz0
 have HLN := Lib.hid hl5
 clear hsz0 y1 hl5
 refine wp_region_ord (fun W => W = w2.drew) (fun i => !([13].contains i)) [0, 1, 2, 3, 4, 5, 6, 7, 8, 9, 10, 11, 12, 13] rfl (by kernel_rfl) rfl ?_
 repeat ((refine ord_q (v := ?_) rfl rfl (fun _ _ _ h => h) rfl (fun W hW => ?_) ?_); rotate_left; (focus ((try dsimp only at hW); subst hW; have r1 : w2.drew.cell? ⟨vb, vo + 1, none⟩ = some (.int .u8 lo) := D1; have r2 : w2.drew.cell? ⟨vb, vo + 2, none⟩ = some (.int .u8 hi) := D2; have r3 : vb < w2.drew.heap.size := hvl2; (go_simp; first | done | with_reducible rfl))); (try simp only [Act.put, List.setIfInBounds_toArray, List.set_cons_zero, List.set_cons_succ]))
 rw [HOR.out]
 refine ord_l rfl rfl rfl (by kernel_rfl) ?_; intro K hK; go_simp
 refine hK.out _ _ ?_
 refine ord_nil ?_
 have hk3 : Keep (· = lb) w2 (w2.setCell ⟨lb, 0, none⟩ (.int .i64 size)).drew := ((Keep.refl (· = lb) w2).setCell (p := ⟨lb, 0, none⟩) (.inr rfl) _).drew
 have hL3 : (w2.setCell ⟨lb, 0, none⟩ (.int .i64 size)).drew.heap[lb]? = some (.cells #[.int .i64 size, .slice none 0 0] 179 (0, 0)) := by
  show (w2.setCell ⟨lb, 0, none⟩ (.int .i64 size)).heap[lb]? = _
  simp [World.setCell, Array.getElem?_modify, hL2]
 generalize (w2.setCell ⟨lb, 0, none⟩ (.int .i64 size)).drew = w3 at hk3 hL3 ⊢
 have hsl : ¬ S lb := fun x => absurd (hsub lb x) (Nat.not_lt.2 hlbw)
 have hA3 : ListAt w3 S lb lb size (rs.take 0) (.slice none 0 0) := ⟨hL3, by rw [List.take_zero]; exact OwnSl.nil _ _ _ _ _, Nat.le_refl _, hsl⟩
 have hb3 : Below lb w1 w3 := by
  have := hb2
  rw [HLB.out] at this
  exact this.trans (hk3.toBelow (by omega) (fun i hi e => by omega))
 have hvb1 : vb < lb := by rw [← HLB.out]; exact hvl
 have HCELL := Lib.hid (fun (W : World) (hW : Below lb w1 W) (j : Nat) (u : Value) (hu : (bCells (encR size rs ++ rest))[j]? = some u) => (show W.cell? ⟨vb, vo + j, none⟩ = some u from by
  obtain ⟨_, _, e, dj⟩ := IsSl.at1 HV.out rfl j _ hu
  cases e
  exact (World.cell?_of_block (w := w1) (a := ⟨vb, vo + j, none⟩) (hW.block vb hvb1)).trans dj))
 have hw1l : w1.heap.size = lb := HLB.out
 have D3' := HCELL.out w3 hb3 3 _ (encR_head size rs rest).2.2.2
 have hvl3 : vb < w3.heap.size := Nat.lt_of_lt_of_le hvl (by rw [hw1l]; exact Nat.le_of_lt (Array.getElem?_eq_some_iff.1 hL3).1)
 have u3 : ((UInt8.ofNat rs.length).toNat : Int) = (rs.length : Int) := by rw [UInt8.toNat_ofNat']; omega
 rw [u3] at D3'
 clear D0 D1 D2 D3 hvl2 hlf hlc hlbd hlb2 hk3 hL3 hL2 u3 y2
 go_wp2_with fail
 go_loopw [9, 10, 70] (fun _ _ i wr => ∃ (k : Nat) (v : Value), k ≤ rs.length ∧ i = .int .i64 k ∧ ListAt wr S lb lb size (rs.take k) v ∧ Below lb w1 wr) (fun _ _ i _ => rs.length - (intOf i).toNat)
 case atStart => exact ⟨0, _, by omega, rfl, hA3, hb3⟩
 case round =>
  obtain ⟨k, v, hk, rfl, hA, hb⟩ := hrel
  have hkt : (rs.take k).length = k := by rw [List.length_take]; omega
  obtain ⟨hobj, hown⟩ := And.intro hA.obj hA.own
  rw [hkt] at hown
  obtain ⟨vo2, vc2, rfl, _, _, _, _⟩ := IsSl.form hown.isSl
  have hlbr : lb < wr.heap.size := (Array.getElem?_eq_some_iff.1 hobj).1
  have hvr : vb < wr.heap.size := Nat.lt_trans hvb1 hlbr
  have HA := Lib.hid hA; clear hA hkt
  by_cases hkl : k < rs.length
  ·have x1 : (k : Int) < (rs.length : Int) := by omega
   have z1 : ¬ cp = 4 + 3 * k := by omega
   have z2 : ((4 : Int) + 3 * (k : Int)) ≤ 512 := by omega
   have z3 : ((4 : Int) + 3 * (k : Int)) ≤ (cp : Int) := by omega
   have z4 : ((4 : Int) + 3 * (k : Int)).toNat = 4 + 3 * k := by omega
   clear D3'
   go_upto_region 18 with (fail)
   obtain ⟨f, hf⟩ : ∃ f, f = rs[k].1 := ⟨_, rfl⟩
   obtain ⟨n, hn⟩ : ∃ n, n = rs[k].2 := ⟨_, rfl⟩
   have hrk := HH.out.ok rs[k] (List.getElem_mem hkl)
   rw [← hf, ← hn] at hrk
   obtain ⟨j0, j1, j2⟩ := flatRun_at rs k hkl
   obtain ⟨a1, ha1⟩ : ∃ a : Nat, a = f % 256 := ⟨_, rfl⟩
   obtain ⟨a2, ha2⟩ : ∃ a : Nat, a = f / 256 := ⟨_, rfl⟩
   have v1 : ((UInt8.ofNat rs[k].1).toNat : Int) = (a1 : Int) := by rw [UInt8.toNat_ofNat', ← hf, ha1]
   have v2 : ((UInt8.ofNat (rs[k].1 / 256)).toNat : Int) = (a2 : Int) := by rw [UInt8.toNat_ofNat', ← hf, ha2]; omega
   have v3 : ((UInt8.ofNat rs[k].2).toNat : Int) = (n : Int) := by rw [UInt8.toNat_ofNat', ← hn]; omega
   have HR := Lib.hid (show ∀ W, Below lb w1 W → W.cell? ⟨vb, vo + (4 + 3 * k), none⟩ = some (.int .u8 a1) ∧ W.cell? ⟨vb, vo + (4 + 3 * k) + 1, none⟩ = some (.int .u8 a2) ∧ W.cell? ⟨vb, vo + (4 + 3 * k) + 2, none⟩ = some (.int .u8 n) from fun W hW => by
    have e0 := HCELL.out W hW (4 + 3 * k) _ (encR_at size rs rest _ _ _ j0 rfl)
    have e1 := HCELL.out W hW (4 + 3 * k + 1) _ (encR_at size rs rest _ _ _ j1 (by omega))
    have e2 := HCELL.out W hW (4 + 3 * k + 2) _ (encR_at size rs rest _ _ _ j2 (by omega))
    rw [v1] at e0; rw [v2] at e1; rw [v3] at e2
    exact ⟨e0, by rw [Nat.add_assoc]; exact e1, by rw [Nat.add_assoc]; exact e2⟩)
   have HF := Lib.hid (kid_or a1 a2 f (by omega) (by omega) (by omega))
   have q9 : IntKind.i64.wrap (n : Int) = (n : Int) := IntWalk.i64_in _ (by omega)
   have HRUN := Lib.hid (show runCells (rs.take (k + 1)) = runCells (rs.take k) ++ [.int .i64 f, .int .i64 n] by
    rw [List.take_succ_eq_append_getElem hkl, runCells_append, hf, hn]; rfl)
   have hcl1 : wr.cell? ⟨lb, 1, none⟩ = some (.slice vo2 k vc2) := by simp [World.cell?, hobj]
   have hz5 : 0 < 512 - (4 + 3 * k) := by omega
   have hz9 : 1 < 512 - (4 + 3 * k) := by omega
   have hz10 : 2 < 512 - (4 + 3 * k) := by omega
   have hz6 : (0 : Int) < ((512 - (4 + 3 * k) : Nat) : Int) := by omega
   have hz7 : (1 : Int) < ((512 - (4 + 3 * k) : Nat) : Int) := by omega
   have hz8 : (2 : Int) < ((512 - (4 + 3 * k) : Nat) : Int) := by omega
   clear hf hn v1 v2 v3 j0 j1 j2 ha1 ha2 z1 z2 z3 z4
   generalize 512 - (4 + 3 * k) = M at *
   generalize cp - (4 + 3 * k) = M2 at *
   refine wp_region_ord (fun W => Below lb w1 W ∧ W.cell? ⟨lb, 1, none⟩ = some (.slice vo2 k vc2) ∧ lb < W.heap.size ∧ vb < W.heap.size) (fun i => !([20, 21, 24].contains i)) [0, 1, 2, 3, 4, 5, 6, 7, 8, 9, 10, 11, 12, 13, 14, 15, 16, 17, 18, 19, 20, 21, 22, 23, 24] rfl (by kernel_rfl) ⟨hb.drew, hcl1, hlbr, hvr⟩ ?_
   repeat ((refine ord_q (v := ?_) rfl rfl (fun _ _ _ h => h) rfl (fun W hW => ?_) ?_); rotate_left; (focus ((try dsimp only at hW); obtain ⟨r0, r1, r2, r3⟩ := hW; obtain ⟨r4, r5, r6⟩ := HR.out W r0; clear r0; (go_simp; first | done | with_reducible rfl))); (try simp only [Act.put, List.setIfInBounds_toArray, List.set_cons_zero, List.set_cons_succ]))
   rw [HF.out]
   have hsubr : ∀ g, S g → g < wr.heap.size := fun g hg => Nat.lt_of_lt_of_le (hsub g hg) (Nat.le_trans hlbw (Nat.le_of_lt hlbr))
   have hbA' : Below lb wr (wr.alloc (.cells #[.int .i64 f, .int .i64 n] 238)).drew := ((below_one wr _).mono (Nat.le_of_lt hlbr)).drew
   have hobA : (wr.alloc (.cells #[.int .i64 f, .int .i64 n] 238)).drew.heap[lb]? = _ := ((below_one wr (.cells #[.int .i64 f, .int .i64 n] 238)).block lb hlbr).trans hobj
   have hownA := (hown.below (below_one wr (.cells #[.int .i64 f, .int .i64 n] 238))).drew
   have hsrcA := (own_new (w := wr) (S := S) (B := lb) (e := 238) (k := 2) [.int .i64 f, .int .i64 n] 1 1 rfl rfl (Nat.le_refl _) (by simp [maxLen]) (Nat.le_of_lt hlbr) hsubr).drew.isSl.src (P := Tryz.prog) Tryz.underlying177 (by intro u hu; simp at hu; rcases hu with rfl | rfl <;> rfl)
   have hSA : ∀ g, S g → g < (wr.alloc (.cells #[.int .i64 f, .int .i64 n] 238)).drew.heap.size := fun g hg => Nat.lt_of_lt_of_le (hsubr g hg) (below_one wr (.cells #[.int .i64 f, .int .i64 n] 238)).size
   have hcA : (wr.alloc (.cells #[.int .i64 f, .int .i64 n] 238)).drew.cell? ⟨lb, 1, none⟩ = some (.slice vo2 k vc2) := by have := hobA; simp only [World.cell?, this]; rfl
   refine ord_e rfl rfl rfl ?_; intro K hK; go_simp
   refine hK.out _ _ ⟨hb.trans hbA', hcA, (Array.getElem?_eq_some_iff.1 hobA).1, Nat.lt_of_lt_of_le hvr hbA'.size⟩ ?_
   refine ord_e rfl rfl rfl ?_; intro K hK
   refine wp_app (.tmp 82) (.tmp 98) 177 177 rfl S lb 238 2 16 _ Tryz.underlying177 info_run rfl (.slice vo2 k vc2) k _ rfl hownA _ 1 _ rfl hsrcA hSA (Nat.le_trans (Nat.le_of_lt hlbr) hbA'.size) (by unfold maxLen; omega) (by omega) ?_
   intro ao3 c3 w4 hown4 hk4 hb4 hd4
   have hob4 : w4.heap[lb]? = _ := (hk4.block lb (Array.getElem?_eq_some_iff.1 hobA).1 (hownA.ne hobA (by decide))).trans hobA
   have hPUT := listPut (rs' := rs.take (k + 1)) hobA hownA (Nat.le_refl _) hsl hk4 hb4 (by rw [HRUN.out, List.length_take, show min (k + 1) rs.length = k + 1 by omega]; exact hown4)
   have HPUT := Lib.hid hPUT; clear hPUT
   refine hK.out _ _ ⟨(hb.trans hbA').trans hb4, by simp [World.cell?, hob4], (Array.getElem?_eq_some_iff.1 hob4).1, Nat.lt_of_lt_of_le (Nat.lt_of_lt_of_le hvr hbA'.size) hb4.size⟩ ?_
   (try simp only [Act.put, List.setIfInBounds_toArray, List.set_cons_zero, List.set_cons_succ])
   repeat ((refine ord_q (v := ?_) rfl rfl (fun _ _ _ h => h) rfl (fun W hW => ?_) ?_); rotate_left; (focus ((try dsimp only at hW); obtain ⟨r0, r1, r2, r3⟩ := hW; clear r0; (go_simp; first | done | with_reducible rfl))); (try simp only [Act.put, List.setIfInBounds_toArray, List.set_cons_zero, List.set_cons_succ]))
   have g4 : w4.cell? ⟨lb, 1, none⟩ = some (.slice vo2 k vc2) := by simp [World.cell?, hob4]
   have gf4 : w4.frozen? ⟨lb, 1, none⟩ = false := by simp [World.frozen?, hob4]
   have gl4 := (Array.getElem?_eq_some_iff.1 hob4).1
   refine ord_l rfl rfl rfl (by kernel_rfl) ?_; intro K hK; go_simp
   refine hK.out _ _ ?_
   refine ord_nil ?_
   clear hz5 hz6 hz7 hz8 hz9 hz10 q9
   go_wp2_with fail
   go_roundw
   case rel => exact ⟨k + 1, _, by omega, by go_num, HPUT.out.1, (hb.trans hbA').trans HPUT.out.2⟩
   case measure => simp [intOf]; omega
  ·obtain rfl : k = rs.length := by omega
   have hAr := HA.out
   rw [List.take_length] at hAr
   have hlen := HH.out.len
   have hsubr : ∀ g, S g → g < wr.heap.size := fun g hg => Nat.lt_of_lt_of_le (hsub g hg) (Nat.le_trans hlbw (Nat.le_of_lt hlbr))
   have HBK := Lib.hid (bblocks lb size rs _ lb S wr.drew (show ListAt wr.drew S lb lb size rs (.slice vo2 rs.length vc2) from ⟨hAr.obj, hAr.own.drew, hAr.lo, hAr.ns⟩) hsubr HH.out.ok (by omega))
   obtain ⟨s5, hs5⟩ : ∃ s : Nat, s = size + 512 := ⟨_, rfl⟩
   obtain ⟨s6, hs6⟩ : ∃ s : Nat, s = size + 511 := ⟨_, rfl⟩
   obtain ⟨nb, hnb⟩ : ∃ s : Nat, s = nblk size := ⟨_, rfl⟩
   have q1 : IntKind.i64.wrap ((size : Int) + 512) = (s5 : Int) := by rw [IntWalk.i64_in _ (by omega)]; omega
   have q2 : IntKind.i64.wrap ((s5 : Int) - 1) = (s6 : Int) := by rw [IntWalk.i64_in _ (by omega)]; omega
   have q3 : IntKind.i64.wrap ((s6 : Int) / 512) = (nb : Int) := by
    have e : (s6 : Int) / 512 = (nb : Int) := by rw [hnb]; unfold nblk; omega
    rw [e]; exact IntWalk.i64_in _ (by unfold nblk at hnb; omega)
   have z0 : ((size : Int) == 0) = false := by simp; omega
   have z1 : ¬ size = 0 := by omega
   rw [← hnb] at hlen
   have HLEN := Lib.hid hlen
   have HCB := Lib.hid (show ∀ W, Below wr.heap.size wr W → W.cell? ⟨lb, 0, none⟩ = some (.int .i64 size) ∧ lb < W.heap.size from fun W hW => by
    have := (hW.block lb hlbr).trans hobj
    exact ⟨by simp [World.cell?, this], Nat.lt_of_lt_of_le hlbr hW.size⟩)
   have HAR := Lib.hid hAr
   clear hAr D3' hs5 hs6 hnb hlen hown hkl
   go_upto_region 20 with (fail)
   refine wp_region_ord (fun W => Below wr.heap.size wr W) (fun i => !([7].contains i)) [0, 1, 2, 3, 4, 5, 6, 9, 10, 11, 12, 13, 14, 15, 7, 8, 16, 17] rfl (by kernel_rfl) ((Below.refl _ wr).drew) ?_
   repeat ((refine ord_q (v := ?_) rfl rfl (fun _ _ _ h => h) rfl (fun W hW => ?_) ?_); rotate_left; (focus ((try dsimp only at hW); obtain ⟨r0, r1⟩ := HCB.out W hW; (go_simp; first | done | with_reducible rfl))); (try simp only [Act.put, List.setIfInBounds_toArray, List.set_cons_zero, List.set_cons_succ]))
   refine ord_e rfl rfl rfl ?_; intro K hK; go_simp
   refine HBK.out.mono ?_; rintro e w5 ⟨bv, rfl, hown5, hb5⟩
   obtain ⟨xo, xc, rfl, _, _, _, _⟩ := IsSl.form hown5.isSl
   refine hK.out _ _ ((Below.refl _ wr).drew.trans hb5) ?_
   (try simp only [Act.put, List.setIfInBounds_toArray, List.set_cons_zero, List.set_cons_succ])
   have z3 := HLEN.out
   repeat ((refine ord_q (v := ?_) rfl rfl (fun _ _ _ h => h) rfl (fun W hW => ?_) ?_); rotate_left; (focus ((try dsimp only at hW); obtain ⟨r0, r1⟩ := HCB.out W hW; (try rw [z3]); (go_simp; first | done | with_reducible rfl))); (try simp only [Act.put, List.setIfInBounds_toArray, List.set_cons_zero, List.set_cons_succ]))
   refine ord_nil ?_
   go_wp2_with fail
   go_ret2
   have hb05 : Below wr.heap.size wr w5 := (Below.refl _ wr).drew.trans hb5
   have hbA5 : Below lb w1 w5 := hb.trans (hb05.mono (Nat.le_of_lt hlbr))
   have hA5 := HAR.out.below hb05
   refine ⟨lb, _, rfl, ⟨hA5.obj, hA5.own.base hlbw, hlbw, hsl⟩, ?_⟩
   exact hb1.trans (hbA5.mono hlbw)
def blobB (head : Nat) (rs : List (Nat × Nat)) : List Int := (runsB rs ++ [head]).map fun (b : Nat) => (b : Int)
theorem bBlocks (mp : VS) (σ : MSt) (S : Nat → Prop) (w : World) (head size : Nat) (rs : List (Nat × Nat)) (h : Inv σ S mp w) (hh : HeadAt σ head size rs) :
  Calls Tryz.prog 79 #[.iface 113 mp.agg, .int .i64 head] w fun e w' => ∃ v, e = .returned (.tuple #[v, .int .i64 0]) ∧ OwnSl w' S w.heap.size 3 1 v (srtI (blobB head rs)).length ((srtI (blobB head rs)).map (.int .i64)) ∧ Below w.heap.size w w' := by
 have hsub := h.sub
 have hlo := hh.lo
 obtain ⟨hrl, hbl⟩ := hh.runs
 have HL := Lib.hid (bload mp σ S w head size rs h hh)
 have x2 : ((head : Int) == 0) = false := by simp; omega
 have x3 : ¬ head = 0 := by omega
 have HOK := Lib.hid hh.ok
 have HE := Lib.hid (show ints (runsB rs) ++ [.int .i64 (head : Int)] = (blobB head rs).map (.int .i64) by simp [ints, blobB])
 have HLN := Lib.hid (show (blobB head rs).length = (runsB rs).length + 1 by simp [blobB])
 clear h hh
 go_enter Tryz.func79, Tryz.ntmps79
 go_wp2_with (first
  | (go_at_call 126; go_must (refine HL.out.mono ?_; rintro e w1 ⟨lb, v, rfl, hA, hb1⟩; refine Stop.of ?_)))
 refine Stop.on ?_
 have hS1 : ∀ g, S g → g < w1.heap.size := fun g hg => Nat.lt_of_lt_of_le (hsub g hg) hb1.size
 have HBK := Lib.hid (bblocks lb size rs v w.heap.size S w1 hA hS1 HOK.out (by omega))
 go_wp2_with (first
  | (go_at_call 127; go_must (refine HBK.out.mono ?_; rintro e w2 ⟨bv, rfl, hown2, hb2⟩; refine Stop.of ?_)))
 refine Stop.on ?_
 obtain ⟨xo, xc, rfl, _, _, _, _⟩ := IsSl.form hown2.isSl
 have hS2 : ∀ g, S g → g < w2.heap.size := fun g hg => Nat.lt_of_lt_of_le (hS1 g hg) hb2.size
 have hown2' := hown2.base (B := w.heap.size) hb1.size
 have hbg : w.heap.size ≤ w2.heap.size := Nat.le_trans hb1.size hb2.size
 go_wp2_with (first
  | (at_builtin; go_must ((refine wpList_app rfl (.tmp 23) (.tmp 25) 133 133 rfl S w.heap.size 3 1 8 _ Tryz.underlying133 info_int rfl (.slice xo (runsB rs).length xc) _ _ rfl (hown2'.below (below_one _ _)) _ 1 _ rfl (src_new [.int .i64 (head : Int)] _ 1 1 1 (by simp) Tryz.underlying133 rfl ?_) (sub_alloc hS2 _) ?_ ?_ ?_ ?_); (focus (simp [Value.oneCell'])); (focus (simp only [World.size_alloc]; omega)); (focus (unfold maxLen; omega)); (focus omega); intro ao3 c3 w3 hown3 hk3 hb3 hd3; refine Stop.of ?_)))
 refine Stop.on ?_
 rw [HE.out] at hown3
 have hown3' : OwnSl w3 S w.heap.size 3 1 (.slice ao3 ((runsB rs).length + 1) c3) (blobB head rs).length ((blobB head rs).map (.int .i64)) := by rw [HLN.out]; exact hown3
 have hbA : Below w.heap.size w w3 := ((hb1.trans (hb2.mono hb1.size)).trans (below_one w2 _ |>.mono hbg)).trans hb3
 have HSO := Lib.hid (sort_own (.slice ao3 ((runsB rs).length + 1) c3) (blobB head rs) w3 S w.heap.size hown3' (by rw [HLN.out]; omega) hbA.size)
 go_wp2_with (first
  | (go_at_call 80; go_must (refine HSO.out.mono ?_; rintro e w4 ⟨rfl, ho4, hb4⟩; refine Stop.of ?_)))
 refine Stop.on ?_
 go_wp2_with fail
 go_ret2
 exact ⟨_, rfl, ho4, hbA.trans hb4⟩
def MSt.frees (σ : MSt) (l : List Int) : MSt := l.foldl MSt.gone σ
theorem frees_take (σ : MSt) (l : List Int) (k : Nat) (h : k < l.length) : σ.frees (l.take (k + 1)) = (σ.frees (l.take k)).gone l[k] := by
 rw [List.take_succ_eq_append_getElem h]
 unfold MSt.frees
 rw [List.foldl_append]; rfl
theorem frees_hasB : ∀ (l : List Int) (σ : MSt) (x : Int), (∀ y ∈ l, 0 ≤ y) → x ∉ l → (σ.frees l).hasB x = σ.hasB x
 | [], _, _, _, _ => rfl
 | y :: l, σ, x, h, hx => by
  have := frees_hasB l (σ.gone y) x (fun z hz => h z (List.mem_cons_of_mem _ hz)) (fun e => hx (List.mem_cons_of_mem _ e))
  show ((σ.gone y).frees l).hasB x = _
  rw [this]
  exact MSt.gone_hasB (h y (List.mem_cons_self ..)) (fun e => hx (by rw [e]; exact List.mem_cons_self ..))
theorem chg_frees : ∀ (l : List Int) (σ : MSt), (∀ x ∈ l, σ.hasB x = true) → l.Nodup → Chg σ (σ.frees l) l []
 | [], σ, _, _ => Chg.refl (by simp)
 | y :: l, σ, h, hn => by
  obtain ⟨n1, n2⟩ := List.nodup_cons.1 hn
  have c1 := chg_goneT (h y (List.mem_cons_self ..))
  have c1' := c1.left (rs := l) hn (fun x hx => h x (List.mem_cons_of_mem _ hx))
  have h2 : ∀ x ∈ l, (σ.gone y).hasB x = true := fun x hx => (c1'.new x hx).1
  exact c1'.trans (chg_frees l (σ.gone y) h2 n2)
structure BlobAt (σ : MSt) (head : Nat) (t : List UInt8) (rs : List (Nat × Nat)) : Prop where
 hd : HeadAt σ head t.length rs
 nd : (blobB head rs).Nodup
 blk : ∀ i (h : i < (runsB rs).length), σ.hasB ((runsB rs)[i] : Nat) = true ∧ 2 ≤ (runsB rs)[i] ∧ σ.mem ((runsB rs)[i] : Nat) = pad (chunk t i)
theorem BlobAt.all {σ : MSt} {head : Nat} {t : List UInt8} {rs : List (Nat × Nat)} (h : BlobAt σ head t rs) : ∀ x ∈ blobB head rs, σ.hasB x = true ∧ 2 ≤ x := by
 intro x hx
 unfold blobB at hx
 obtain ⟨b, hb, rfl⟩ := List.mem_map.1 hx
 rcases List.mem_append.1 hb with hb | hb
 ·obtain ⟨i, hi, e⟩ := List.getElem_of_mem hb
  have := h.blk i hi
  rw [e] at this
  exact ⟨this.1, by have := this.2.1; omega⟩
 ·rw [List.mem_singleton.1 hb]
  exact ⟨h.hd.has, by have := h.hd.lo; omega⟩
theorem bFree (mp : VS) (σ : MSt) (S : Nat → Prop) (w : World) (head : Nat) (t : List UInt8) (rs : List (Nat × Nat)) (h : Inv σ S mp w) (hh : BlobAt σ head t rs) :
  Calls Tryz.prog 103 #[.iface 113 mp.agg, .int .i64 head] w fun e w' => e = .returned (.int .i64 0) ∧ Inv (σ.frees (srtI (blobB head rs))) S mp w' ∧ Step S S w w' := by
 have hsub := h.sub
 have HBK := Lib.hid (bBlocks mp σ S w head t.length rs h hh.hd)
 have hall := hh.all
 obtain ⟨L, hL⟩ : ∃ L, L = srtI (blobB head rs) := ⟨_, rfl⟩
 have hnd : L.Nodup := by rw [hL]; exact (List.mergeSort_perm _ _).nodup_iff.2 hh.nd
 have hall' : ∀ x ∈ L, σ.hasB x = true ∧ 2 ≤ x := fun x hx => hall x ((srtI_mem x).1 (by rw [← hL]; exact hx))
 have hll : L.length ≤ 97 := by
  rw [hL, srtI_len]
  have := hh.hd.runs.2
  simp [blobB]; omega
 rw [← hL] at HBK ⊢
 have HALL := Lib.hid hall'; have HND := Lib.hid hnd
 have HI := Lib.hid h
 have hm : ∀ w, (method 458 113 mp.agg "Free").run Tryz.prog w = .ok (263, .pointer (some ⟨mp.mp, 0, none⟩)) w := fun _ => by kernel_rfl
 clear h hh hall hall' hnd hL
 go_enter Tryz.func103, Tryz.ntmps103
 go_wp2_with (first
  | (go_at_call 79; go_must (refine HBK.out.mono ?_; rintro e w1 ⟨bv, rfl, hown1, hb1⟩; refine Stop.of ?_)))
 refine Stop.on ?_
 obtain ⟨xo, xc, rfl, _, _, _, _⟩ := IsSl.form hown1.isSl
 have HOW := Lib.hid hown1
 have HB1 := Lib.hid hb1
 clear hown1 hb1
 go_wp2_with fail
 go_loopw [8, 9, 18] (fun _ _ i wr => ∃ k : Nat, k ≤ L.length ∧ i = .int .i64 k ∧ Inv (σ.frees (L.take k)) S mp wr ∧ Step S S w1 wr) (fun _ _ i _ => L.length - (intOf i).toNat)
 case atStart => exact ⟨0, by omega, rfl, by rw [List.take_zero]; exact HI.out.below HB1.out, Step.refl _ _⟩
 case round =>
  obtain ⟨k, hk, rfl, hIk, hsk⟩ := hrel
  by_cases hkl : k < L.length
  ·have y1 : (k : Int) < (L.length : Int) := by omega
   have HT := Lib.hid (frees_take σ L k hkl)
   have hx := HALL.out L[k] (List.getElem_mem hkl)
   have hxn : L[k] ∉ L.take k := fun e => by
    obtain ⟨i, hi, e2⟩ := List.getElem_of_mem e
    rw [List.length_take] at hi
    rw [List.getElem_take] at e2
    have := (List.getElem_inj HND.out).1 e2
    omega
   have hhas : (σ.frees (L.take k)).hasB L[k] = true := by
    rw [frees_hasB _ _ _ (fun y hy => by have := (HALL.out y (List.mem_of_mem_take hy)).2; omega) hxn]
    exact hx.1
   have HFR := Lib.hid (free_any mp (σ.frees (L.take k)) S wr L[k] hIk hx.2 hhas)
   obtain ⟨pb, po, rfl, d1⟩ := IsInts.at (zs := L) (HOW.out.step hsk).isSl rfl k hkl
   have hpb := World.block_lt_of_cell? wr _ d1
   clear hx hxn hhas
   go_wp2_with (refine HFR.out.mono ?_; rintro e w2 ⟨rfl, hI2, hs2⟩)
   go_roundw
   case rel => exact ⟨k + 1, by omega, by go_num, by rw [HT.out]; exact hI2, hsk.trans hs2⟩
   case measure => simp [intOf]; omega
  ·obtain rfl : k = L.length := by omega
   rw [List.take_length] at hIk
   have y1 : ¬ (L.length : Int) < (L.length : Int) := by omega
   go_wp2_with fail
   go_ret
   exact ⟨rfl, hIk, (Step.of_below HB1.out).trans hsk⟩
end Go.Proofs.YtfgpefcphnpabaaGreat
namespace Go.Proofs.YtfgpefcphnpabaaGreat
open Go.RowKit Go.Shelf
set_option maxRecDepth 100000
set_option maxHeartbeats 8000000
def bldRen : Go.Shelf.Ren := ⟨fun x => match x with | 240 => 217 | 276 => 225 | 169 => 194 | n => n, fun x => match x with | 0 => 0 | 3 => 3 | 4 => 4 | 5 => 5 | 9 => 9 | 20 => 20 | 37 => 86 | 70 => 294 | 72 => 296 | 127 => 323 | 164 => 332 | n => n, fun n => n⟩
theorem checkLays : Lays.n240 Tryz.prog bldRen where
 mixed := by kernel_rfl
 f240 := Tryz.func217.trans (congrArg some (by kernel_rfl))
 f276 := Tryz.func225.trans (congrArg some (by kernel_rfl))
 t0 := Tryz.underlying0
 a0 := Tryz.isAgg0
 z0 := Tryz.sizeOf0
 v0 := Tryz.zeroValue0
 t4 := Tryz.underlying4
 a4 := Tryz.isAgg4
 z4 := Tryz.sizeOf4
 v4 := Tryz.zeroValue4
 t9 := Tryz.underlying9
 a9 := Tryz.isAgg9
 z9 := Tryz.sizeOf9
 v9 := Tryz.zeroValue9
 t20 := Tryz.underlying20
 a20 := Tryz.isAgg20
 z20 := Tryz.sizeOf20
 v20 := Tryz.zeroValue20
 t70 := Tryz.underlying294
 a70 := Tryz.isAgg294
 z70 := Tryz.sizeOf294
 v70 := Tryz.zeroValue294
 t72 := Tryz.underlying296
 a72 := Tryz.isAgg296
 z72 := Tryz.sizeOf296
 v72 := Tryz.zeroValue296
 t164 := Tryz.underlying332
 a164 := Tryz.isAgg332
 z164 := Tryz.sizeOf332
 v164 := Tryz.zeroValue332
theorem stringLays : Lays.n169 Tryz.prog bldRen where
 mixed := by kernel_rfl
 f169 := Tryz.func194.trans (congrArg some (by kernel_rfl))
 t0 := Tryz.underlying0
 a0 := Tryz.isAgg0
 z0 := Tryz.sizeOf0
 v0 := Tryz.zeroValue0
 t3 := Tryz.underlying3
 a3 := Tryz.isAgg3
 z3 := Tryz.sizeOf3
 v3 := Tryz.zeroValue3
 t9 := Tryz.underlying9
 a9 := Tryz.isAgg9
 z9 := Tryz.sizeOf9
 v9 := Tryz.zeroValue9
 t37 := Tryz.underlying86
 a37 := Tryz.isAgg86
 z37 := Tryz.sizeOf86
 v37 := Tryz.zeroValue86
 t70 := Tryz.underlying294
 a70 := Tryz.isAgg294
 z70 := Tryz.sizeOf294
 v70 := Tryz.zeroValue294
 t72 := Tryz.underlying296
 a72 := Tryz.isAgg296
 z72 := Tryz.sizeOf296
 v72 := Tryz.zeroValue296
 t127 := Tryz.underlying323
 a127 := Tryz.isAgg323
 z127 := Tryz.sizeOf323
 v127 := Tryz.zeroValue323
theorem bldExtra : Builder.Extra Tryz.prog bldRen where
 sizeBuilder := by kernel_rfl
 liesBuilder := by kernel_rfl
 t5 := Tryz.underlying5
 a5 := Tryz.isAgg5
 z5 := Tryz.sizeOf5
 v5 := Tryz.zeroValue5
 infoByte := by kernel_rfl
 cellsByte := by kernel_rfl
 sizeByte := by kernel_rfl
 neB5 := by decide
end Go.Proofs.YtfgpefcphnpabaaGreat
namespace Go.Proofs.YtfgpefcphnpabaaGreat
open Go.RowKit
set_option maxRecDepth 100000
set_option maxHeartbeats 8000000
structure BldAt (w : World) (S : Nat → Prop) (B b : Nat) (l : List UInt8) : Prop where
 ns : ¬ S b
 at_ : ∃ p v, (p = .pointer none ∨ p = .pointer (some ⟨b, 0, none⟩)) ∧ w.heap[b]? = some (.cells #[p, v] 296 (0, 0)) ∧ OwnSl w S B 5 1 v l.length (bCells l)
theorem BldAt.below {w w' : World} {S : Nat → Prop} {B b : Nat} {l : List UInt8} (h : BldAt w S B b l) (hb : Below w.heap.size w w') : BldAt w' S B b l := by
 obtain ⟨h2, p, v, h3, h4, h5⟩ := h
 exact ⟨h2, p, v, h3, (hb.block b (Array.getElem?_eq_some_iff.1 h4).1).trans h4, h5.below hb⟩
theorem BldAt.lt {w : World} {S : Nat → Prop} {B b : Nat} {l : List UInt8} (h : BldAt w S B b l) : b < w.heap.size := by
 obtain ⟨_, p, v, _, h4, _⟩ := h
 exact (Array.getElem?_eq_some_iff.1 h4).1
theorem bld_check (B b : Nat) (l : List UInt8) (S : Nat → Prop) (w : World) (h : BldAt w S B b l) :
  Calls Tryz.prog 217 #[.pointer (some ⟨b, 0, none⟩)] w fun e w' => e = .returned (.tuple #[]) ∧ (∃ v, w'.heap[b]? = some (.cells #[.pointer (some ⟨b, 0, none⟩), v] 296 (0, 0)) ∧ OwnSl w' S B 5 1 v l.length (bCells l)) ∧ Keep (· = b) w w' := by
 obtain ⟨h2, p, v, h3, h4, h5⟩ := h
 rcases h3 with rfl | rfl
 ·refine (Any.Builder_copyCheck_fresh checkLays bldExtra.toX72 b w (by simp [World.cell?, h4]) (by simp [World.shape?, h4]; rfl) (by simp [World.frozen?, h4])).mono ?_
  rintro e w' ⟨rfl, rfl⟩
  have hk : Keep (· = b) w (w.setCell ⟨b, 0, none⟩ (.pointer (some ⟨b, 0, none⟩))) := (Keep.refl (· = b) _).setCell (p := ⟨b, 0, none⟩) (.inr rfl) _
  refine ⟨rfl, ⟨v, by simp [World.setCell, Array.getElem?_modify, h4], h5.keep fun g hg hl hs => ⟨hk.block g hl (fun e => h5.ne h4 (by decide) (by rw [hg, e])), hs⟩⟩, hk⟩
 ·refine (Any.Builder_copyCheck_used checkLays bldExtra.toX72 b w (by simp [World.cell?, h4])).mono ?_
  rintro e w' ⟨rfl, rfl⟩
  exact ⟨rfl, ⟨v, h4, h5⟩, Keep.refl _ _⟩
theorem bld_write (B b : Nat) (l x : List UInt8) (xv : Value) (S : Nat → Prop) (w : World) (h : BldAt w S B b l) (hB : B ≤ w.heap.size) (hS : ∀ g, S g → g < w.heap.size) (hx : IsSl w NoS 1 xv x.length (bCells x)) (hxb : ∀ g, xv.ownBlock = some g → g ≠ b) (hl : l.length ≤ 1000000) (hxl : x.length ≤ 1000000) :
  Calls Tryz.prog 193 #[.pointer (some ⟨b, 0, none⟩), xv] w fun e w' => e = .returned (.tuple #[.int .i64 x.length, .nilIface]) ∧ BldAt w' S B b (l ++ x) ∧ Keep (fun g => g = b ∨ B ≤ g) w w' := by
 have HC := Lib.hid (bld_check B b l S w h)
 have hns := h.ns
 obtain ⟨xo, xc, rfl, _, _, _, _⟩ := IsSl.form hx
 have HX := Lib.hid hx
 have HLX := Lib.hid (show bCells l ++ bCells x = bCells (l ++ x) from (bCells_append l x).symm)
 clear h hx
 go_enter Tryz.func193, Tryz.ntmps193
 go_wp2_with (first
  | (go_at_call 217; go_must (refine HC.out.mono ?_; rintro e w1 ⟨rfl, ⟨v, hobj, hown⟩, hk1⟩; refine Stop.of ?_)))
 refine Stop.on ?_
 obtain ⟨ao, c, rfl, _, _, _, _⟩ := IsSl.form hown.isSl
 have hsrc := (IsSl.keep (S' := NoS) HX.out (fun g hg hl _ => ⟨hk1.block g hl (fun e => hxb g hg e), id⟩)).src (P := Tryz.prog) Tryz.underlying86 (one_bytes x)
 have hc1 : w1.cell? ⟨b, 1, none⟩ = some (.slice ao l.length c) := by simp [World.cell?, hobj]
 have hlt := (Array.getElem?_eq_some_iff.1 hobj).1
 have hS1 : ∀ g, S g → g < w1.heap.size := fun g hg => Nat.lt_of_lt_of_le (hS g hg) hk1.size
 have hB1 := Nat.le_trans hB hk1.size
 go_wp2_with (first
  | (at_builtin; go_must ((refine wpList_app rfl (.tmp 12) (.tmp 13) 86 86 rfl S B 5 1 1 (.int .u8 0) Tryz.underlying86 info_u8 rfl (.slice ao l.length c) _ _ rfl hown (.slice xo x.length xc) _ _ rfl hsrc hS1 ?_ ?_ ?_ ?_); (focus (exact hB1)); (focus (unfold maxLen; omega)); (focus omega); intro ao3 c3 w3 hown3 hk3 hb3 hd3; refine Stop.of ?_)))
 refine Stop.on ?_
 have hob3 : w3.heap[b]? = _ := (hk3.block b hlt (hown.ne hobj (by decide))).trans hobj
 have g1 : w3.cell? ⟨b, 1, none⟩ = some (.slice ao l.length c) := by simp [World.cell?, hob3]
 have gf : w3.frozen? ⟨b, 1, none⟩ = false := by simp [World.frozen?, hob3]
 have gl := (Array.getElem?_eq_some_iff.1 hob3).1
 have HO3 := Lib.hid hown3
 clear hown3
 go_wp2_with fail
 go_ret2
 have hk5 : Keep (· = b) w3 (w3.setCell ⟨b, 1, none⟩ (.slice ao3 (l.length + x.length) c3)) := (Keep.refl (· = b) _).setCell (p := ⟨b, 1, none⟩) (.inr rfl) _
 have ho := HO3.out
 rw [HLX.out] at ho
 refine ⟨rfl, ⟨hns, _, _, .inr rfl, by simp [World.setCell, Array.getElem?_modify, hob3]; rfl, ?_⟩, ?_⟩
 ·rw [List.length_append]
  exact ho.keep fun g hg hl hs => ⟨hk5.block g hl (fun e => ho.ne hob3 (by decide) (by rw [hg, e])), hs⟩
 ·exact ((hk1.mono (fun _ _ e => .inl e)).trans (hk3.mono (fun g _ e => .inr (hown.lo g e))) (fun _ _ e => e)).trans (hk5.mono (fun _ _ e => .inl e)) (fun _ _ e => e)
theorem bld_string (B b : Nat) (l : List UInt8) (S : Nat → Prop) (w : World) (h : BldAt w S B b l) :
  Calls Tryz.prog 194 #[.pointer (some ⟨b, 0, none⟩)] w fun e w' => e = .returned (.string ⟨l.toArray⟩) ∧ Below (min B b) w w' := by
 have hlt := h.lt
 obtain ⟨h2, p, v, h3, h4, h5⟩ := h
 have hne := h5.ne h4 (by decide)
 have hcl : (Lib.byteCells l) = bCells l := rfl
 have h5' := h5.base (B := min B b) (Nat.min_le_left _ _)
 have hA : Lib.BuilderAt 296 5 (min B b) b p (Lib.byteCells l) w := ⟨Nat.min_le_right _ _, v, h4, by rw [hcl, bCells_length]; exact h5'.1, hne⟩
 refine (Any.Builder_String_any stringLays bldExtra (min B b) b l w ?_ (by omega))
 rcases h3 with rfl | rfl
 ·exact .inl hA
 ·exact .inr hA
end Go.Proofs.YtfgpefcphnpabaaGreat
