/- Edit, Grow, Ops, Ref -/
import Derived.Test.YtbldcbakhpdigaaGreatJ7
/- edit: on any tree. -/
namespace Go.Proofs.YtbldcbakhpdigaaGreat
open Go.RowKit

/-- what edit answers on a tree -/
def EditPost (mp : Nat) (σ : MSt) (S : Nat → Prop) (h : Nat) (lo : ByteArray) (hi : Option ByteArray) (cs : List Pr) (bs : List Int) (w : World) (e : Ending) (w' : World) : Prop :=
  ∃ v ps σ' S' bs' m, e = .returned v ∧ OwnSl w' S' w.heap.size 99 2 v ps.length (pcCells ps) ∧ Pcs σ' h m lo hi ps cs bs' ∧ Chg σ σ' bs bs' ∧ Inv σ' S' mp w' ∧ Step S S' w w'

/-- edit's contract on trees of one height -/
def EditIH (t mp : Nat) (root err : Int) (key : ByteArray) (g : Nat) (cb : Array Value) (F : List Pr → List Pr) (vs : List (Nat × ByteArray)) (h : Nat) : Prop :=
  ∀ (σ : MSt) (S : Nat → Prop) (b deep : Int) (least lo : ByteArray) (hi : Option ByteArray) (cs : List Pr) (bs : List Int) (w : World), Inv σ S mp w → TreeAt w t mp root err → ¬ S t → Boxes w S vs → TrM σ h 2 lo hi b cs bs → bs.Nodup → Within lo hi key → deep + h ≤ 40 → 0 ≤ deep → Room σ bs (cs.length + 1) → least.size ≤ 128 →
    Calls Tryz.prog 33 #[.pointer (some ⟨t, 0, none⟩), .int .i64 b, .int .i64 deep, .string key, .string least, .func (.func g) #[] cb] w (EditPost mp σ S h lo hi (F cs) bs w)

/-- of pieces that spread wrote -/
theorem spr_pcs {nd : Nd} {l : ByteArray} {zs : List (ByteArray × Nd)} (hs : Spr nd l zs) {σ σ' : MSt} {ps : List Pc} {lo : ByteArray} {hi : Option ByteArray} {h : Nat} {cs : List Pr} {bs : List Int} (ok : nd.Ok) (hr : NdRow σ h lo hi nd cs bs) (hp : Puts σ ps zs σ') (hc : Cln σ) (hn : bs.Nodup) (hb : ∀ x ∈ bs, σ.hasB x = true) (hl : l.size ≤ 128) (hroom : nd.room ≤ 900) :
    ∃ m bs', Pcs σ' h m lo hi ps cs bs' ∧ Chg σ σ' bs bs' := by
  have hlen : ps.length ≤ 900 := by
    have e1 := hs.room ok
    have e2 := hp.length.1
    omega
  have hkey := hp.keys (hs.keys ok hl)
  by_cases h2 : h = 0 ∨ 2 ≤ nd.kids.length
  · obtain ⟨bs', q1, q2⟩ := spread_row hs (m := 2) ok hr hp hc (Nat.le_refl 2) (by rcases h2 with h2 | h2; exact .inl h2; exact .inr h2) hn hb
    exact ⟨2, bs', ⟨q1, hkey, hlen, by omega, by omega, .inl rfl⟩, q2⟩
  · obtain ⟨h', rfl⟩ : ∃ d, h = d + 1 := ⟨h - 1, by omega⟩
    have hk := hr.1
    have hk1 := List.length_pos_iff.2 hk
    obtain ⟨bs', q1, q2⟩ := spread_row hs (m := 1) ok hr hp hc (by omega) (.inr (by omega)) hn hb
    refine ⟨1, bs', ⟨q1, hkey, hlen, by omega, by omega, .inr ?_⟩, q2⟩
    have e2 := hp.length.1
    have hsz : nd.size ≤ 512 := by
      rcases Nat.lt_or_ge 512 nd.size with h5 | h5
      · have := (ok.big h5).2 hk; omega
      · exact h5
    cases hs with
    | none h1 _ => exact absurd h1 hk
    | one _ _ => simpa using e2
    | leaf _ _ _ h2 => omega
    | inner _ _ _ h2 => omega

theorem edit_h0 (t mp : Nat) (root err : Int) (key : ByteArray) (g : Nat) (cb : Array Value) (F : List Pr → List Pr) (vs : List (Nat × ByteArray)) (hent : ∀ args w, (callFunc g args).run Tryz.prog w = .ok (.enter g args) w) (hf : EditC g cb F vs) (hF : LocF F key) : EditIH t mp root err key g cb F vs 0 := by
  intro σ S b deep least lo hi cs bs w h ht hst hbx hT hn hw hd hd0 hR hl
  obtain ⟨nd, h1, h2, h3, h4, h5, h6, h7, h8⟩ := hT
  subst h4 h8
  have hlen := hF.len nd.pairs
  have hnp := h1.fits.np
  have ok : Nd.Ok ⟨F nd.pairs, [], []⟩ := ⟨fun p hp => by
    rcases hF.mem _ h6 p hp with h | h
    · exact h2.pr p h
    · exact h.2, by simp, by simp, rfl, by simp, by show (F nd.pairs).length ≤ 2000; omega, by simp⟩
  have hc1 := chg_gone h h1.has
  have hR1 := hc1.room hR
  refine (edit_leaf t mp root err b deep σ S key least nd g cb F vs hent hf w h ht hst hbx h1 h3 (by omega) h6 ok (by unfold Room at hR1; simp [nh] at hR1; unfold Nd.room; simp only [if_true]; omega)).mono ?_
  rintro e w' ⟨v, ps, zs, σ', S', rfl, p2, p3, p4, p5, p6⟩
  have hcl := hc1.cln h.cln
  obtain ⟨m, bs', q1, q2⟩ := spr_pcs p3 (lo := lo) (hi := hi) (h := 0) (cs := F nd.pairs) (bs := []) ok ⟨rfl, rfl, hF.rise _ h6, fun p hp => by
    rcases hF.mem _ h6 p hp with h | h
    · exact h7 p h
    · rw [h.1]; exact hw, rfl⟩ p4 hcl List.nodup_nil (by simp) hl (by unfold Nd.room; simp only [if_true]; omega)
  exact ⟨v, ps, σ', S', bs', m, rfl, p2, q1, hc1.trans q2, p5, p6⟩

/-- the plain part of edit on an inner node: what is known of the node and of the kid -/
structure EdN (σ : MSt) (h : Nat) (lo : ByteArray) (hi : Option ByteArray) (b : Int) (cs : List Pr) (bs : List Int) (key : ByteArray) (nd : Nd) (L : List (ByteArray × Int)) (k : ByteArray) (kb : Int) (M : List (ByteArray × Int)) (cl c cm : List Pr) (bl x bm : List Int) : Prop where
  blk : Blk σ b nd
  ok : nd.Ok
  kids : 2 ≤ nd.kids.length
  row : RowOf nd lo (L ++ (k, kb) :: M)
  l : RowL (TrM σ h 2) (some k) L cl bl
  t : TrM σ h 2 k (nextLo M hi) kb c x
  m : RowL (TrM σ h 2) hi M cm bm
  cs : cs = cl ++ (c ++ cm)
  bs : bs = b :: (bl ++ (x ++ bm))
  at_ : L.length = kidAt nd.keys key
  w : Within k (nextLo M hi) key
  rise : Rising nd.keys
  lo1 : ∀ k1 b1 M', M = (k1, b1) :: M' → lt k1 lo = false

theorem ed_open {σ : MSt} {h : Nat} {lo : ByteArray} {hi : Option ByteArray} {b : Int} {cs : List Pr} {bs : List Int} {key : ByteArray} (ht : TrM σ (h + 1) 2 lo hi b cs bs) (hw : Within lo hi key) :
    ∃ nd L k kb M cl c cm bl x bm, EdN σ h lo hi b cs bs key nd L k kb M cl c cm bl x bm := by
  obtain ⟨nd, bs', h1, h2, h3, h4, h5, h6⟩ := ht
  have hro := rowOf h2 h3 lo
  have hri := TrM.rising h2 h3 h6
  obtain ⟨b0, l, e, e2, e3⟩ := zip_lows h2.kk h3 lo
  have er : nd.row lo = (lo, b0) :: l := e
  obtain ⟨L, k, kb, M, q1, q2, q3, q4⟩ := row_split (b := b0) (r := l) (key := key) hw.1
  rw [er] at hro h6
  rw [q1] at hro h6
  have hlows := RowL.lows (fun k z b c x ht => TrM.content ht) (by rw [← q1] at h6; exact h6)
  obtain ⟨cl, cr, bl, br, r1, ⟨c, cm, x, bm, tk, rm, rfl, rfl⟩, rfl, rfl⟩ := h6.split
  refine ⟨nd, L, k, kb, M, cl, c, cm, bl, x, bm, h1, h2, h4, hro, r1, tk, rm, rfl, h5, by rw [q2, e2], ⟨q3, fun y hy => ?_⟩, hri, fun k1 b1 M' hM => ?_⟩
  · cases M with
    | nil => exact hw.2 y hy
    | cons m M => obtain ⟨k1, b1⟩ := m; cases hy; exact q4 _ _ _ rfl
  · subst hM
    have hmem : (k1, b1) ∈ (lo, b0) :: l := by rw [q1]; simp
    rcases List.mem_cons.1 hmem with h | h
    · cases h; exact lt_irrefl _
    · exact lt_asymm ((List.pairwise_cons.1 hlows).1 k1 (List.mem_map_of_mem h))

/-- the content of the whole under a change at one key -/
theorem ed_loc {σ : MSt} {h : Nat} {lo : ByteArray} {hi : Option ByteArray} {b : Int} {cs : List Pr} {bs : List Int} {key : ByteArray} {nd : Nd} {L : List (ByteArray × Int)} {k : ByteArray} {kb : Int} {M : List (ByteArray × Int)} {cl c cm : List Pr} {bl x bm : List Int} (hE : EdN σ h lo hi b cs bs key nd L k kb M cl c cm bl x bm) {F : List Pr → List Pr} (hF : LocF F key) : F cs = cl ++ (F c ++ cm) := by
  rw [hE.cs, ← List.append_assoc, hF.loc cl c cm, List.append_assoc]
  · intro p hp
    have : ∀ {l : List (ByteArray × Int)} {cl : List Pr} {bl : List Int}, RowL (TrM σ h 2) (some k) l cl bl → ∀ p ∈ cl, lt p.1 k = true := by
      intro l cl bl hl p hp
      cases l with
      | nil => obtain ⟨rfl, _⟩ := hl; cases hp
      | cons q l =>
        have := RowL.content (fun k z b c x ht => TrM.content ht) hl
        exact (this.within p hp).2 k rfl
    exact lt_le (this hE.l p hp) hE.w.1
  · intro p hp
    have hm := hE.m
    cases M with
    | nil => obtain ⟨rfl, _⟩ := hm; cases hp
    | cons q M =>
      obtain ⟨k1, b1⟩ := q
      have := RowL.content (fun k z b c x ht => TrM.content ht) hm
      exact lt_le (hE.w.2 k1 rfl) (this.within p hp).1

/-- the room that two neighbours in one need -/
theorem pair_room {σ σ2 : MSt} {h : Nat} {hi : Option ByteArray} {k1 k2 : ByteArray} {A B : Nd} {L M : List (ByteArray × Int)} {cl ca cb cm : List Pr} {bl xa xb bm : List Int} {n : Nat} (okA : A.Ok) (okB : B.Ok) (hl : RowL (TrM σ h 2) (some k1) L cl bl) (hm : RowL (TrM σ h 2) hi M cm bm) (nA : NdRow σ h k1 (some k2) A ca xa) (nB : NdRow σ h k2 (nextLo M hi) B cb xb) (hr : Room σ2 (bl ++ ((xa ++ xb) ++ bm)) n) (hn : (cl ++ (ca ++ (cb ++ cm))).length ≤ n) :
    Maps.size σ2.D + (joinNd A B k2).room ≤ σ2.most := by
  have e1 := RowL.count (fun _ _ _ _ _ ht => TrM.count ht (Nat.le_refl 2)) hl
  have e2 := RowL.count (fun _ _ _ _ _ ht => TrM.count ht (Nat.le_refl 2)) hm
  have f1 := nh_le σ2 bl
  have f2 := nh_le σ2 (xa ++ xb)
  have f3 := nh_le σ2 bm
  unfold Room at hr
  rw [nh_append, nh_append] at hr
  simp only [List.length_append] at hn f2
  cases h with
  | zero =>
    obtain ⟨a1, rfl, _, _, rfl⟩ := nA
    obtain ⟨b1, rfl, _, _, rfl⟩ := nB
    have : (joinNd A B k2).room = A.pairs.length + B.pairs.length := by simp [Nd.room, joinNd, a1, b1]
    rw [this]
    simp only [List.length_nil] at f2
    omega
  | succ h =>
    have g1 := RowL.count (fun _ _ _ _ _ ht => TrM.count ht (Nat.le_refl 2)) nA.2
    have g2 := RowL.count (fun _ _ _ _ _ ht => TrM.count ht (Nat.le_refl 2)) nB.2
    rw [A.row_length okA nA.1] at g1
    rw [B.row_length okB nB.1] at g2
    have p1 := List.length_pos_iff.2 nA.1
    have p2 := List.length_pos_iff.2 nB.1
    have : (joinNd A B k2).room ≤ A.kids.length + B.kids.length := by
      simp [Nd.room, joinNd, okA.one nA.1, okB.one nB.1, nA.1]; omega
    omega

set_option maxHeartbeats 1000000 in
/-- join, on a row of kids of which one may have a single kid -/
theorem join_mid (t mp : Nat) (root err : Int) (σ : MSt) (S : Nat → Prop) (nb : Nat) (nd : Nd) (i : Nat) (deep : Int) (h : Nat) (hi : Option ByteArray) (lo : ByteArray) (R : List (ByteArray × Int)) (cs : List Pr) (bs : List Int) (n : Nat) (w : World) (hI : Inv σ S mp w) (ht : TreeAt w t mp root err) (hst : ¬ S t) (hn : IsNode w S nb nd) (ok : nd.Ok) (hR : RowOf nd lo R) (hM : Mid σ h hi R i cs bs) (hnd : bs.Nodup) (hd : deep ≤ 40) (hroom : Room σ bs n) (hcs : cs.length ≤ n) (hl : R.length ≤ 1160) :
    Calls Tryz.prog 50 #[.pointer (some ⟨t, 0, none⟩), .pointer (some ⟨nb, 0, none⟩), .int .i64 i, .int .i64 deep] w fun e w' => e = .returned (.tuple #[]) ∧ ∃ σ' S' nd' R' bs', Inv σ' S' mp w' ∧ IsNode w' S' nb nd' ∧ RowOf nd' lo R' ∧ RowL (TrM σ' h 2) hi R' cs bs' ∧ Chg σ σ' bs bs' ∧ nd'.Ok ∧ nd'.kids.length ≤ 1700 ∧ Keep (fun g => S g ∨ g = nb) w w' ∧ ∀ g, S' g → S g ∨ w.heap.size ≤ g := by
  have hlen := hR.len
  have hall : ∀ x ∈ bs, σ.hasB x = true := by
    cases hM with
    | two hr => exact fun x hx => RowL.has (fun _ _ _ _ _ ht => TrM.has ht) hr x hx
    | one q1 q2 q3 _ =>
      intro x hx
      simp only [List.mem_append] at hx
      rcases hx with hx | hx | hx
      · exact RowL.has (fun _ _ _ _ _ ht => TrM.has ht) q1 x hx
      · exact q2.has x hx
      · exact RowL.has (fun _ _ _ _ _ ht => TrM.has ht) q3 x hx
  by_cases hs : R.length < 2 ∨ R.length ≤ i
  · refine (join_skip t nb nd i deep w S hn (by omega)).mono ?_
    rintro e w' ⟨rfl, rfl⟩
    exact ⟨rfl, σ, S, nd, R, bs, hI, hn, hR, hM.skip hs, Chg.refl hall, ok, by omega, Keep.refl _ _, fun g hg => .inl hg⟩
  · obtain ⟨L, k1, b1, k2, b2, M, cl, ca, cb, cm, bl, xa, xb, bm, m1, m2, hP⟩ := hM.pair (by omega)
    rw [← hlen.1] at hP
    have hro := hR
    rw [hP.row] at hro
    obtain ⟨dR, d1, d2, d3⟩ := delAt_rowOf hro
    have hLj := hP.len
    rw [hLj] at dR d1 d2 d3
    obtain ⟨A, xa', bA, okA, nA, kA, na, rfl⟩ := trM_iff.1 hP.a
    obtain ⟨B, xb', bB, okB, nB, kB, nb', rfl⟩ := trM_iff.1 hP.b
    have hk2 : k2.size ≤ 128 := ok.ky k2 (List.mem_of_getElem? d1)
    obtain ⟨nJ, okJ, lJ, lJ2⟩ := join_node okA okB nA nB na nb' hk2 bA.fits bB.fits
    have hbs := hP.bs
    have hb12 : b1 ≠ b2 := by
      rintro rfl
      rw [hbs] at hnd
      have h1 := (List.nodup_append.1 hnd).2.1
      exact (List.nodup_append.1 h1).2.2 b1 (by simp) b1 (by simp) rfl
    obtain ⟨c12, hB2⟩ := chg_gone2 hI bA.has bB.has hb12
    have hcl := c12.cln hI.cln
    have hperm : bs.Perm ([b1, b2] ++ (bl ++ ((xa' ++ xb') ++ bm))) := by
      rw [hbs]
      have e1 : (b1 :: xa' ++ (b2 :: xb' ++ bm)).Perm ([b1, b2] ++ ((xa' ++ xb') ++ bm)) := by
        show (b1 :: (xa' ++ b2 :: (xb' ++ bm))).Perm (b1 :: b2 :: ((xa' ++ xb') ++ bm))
        refine List.Perm.cons _ ?_
        rw [List.append_assoc]
        exact List.perm_middle
      exact (List.Perm.append_left bl e1).trans (List.perm_append_comm_assoc _ _ _)
    have c1 := c12.left (hperm.nodup_iff.1 hnd) (fun x hx => hall x (hperm.mem_iff.2 (List.mem_append_right _ hx)))
    have hr2 := (c1.perm hperm.symm (List.Perm.refl _)).room hroom
    have hrm := pair_room okA okB hP.l hP.m nA nB hr2 (by rw [← hP.cs]; exact hcs)
    refine (join_any t mp root err σ S nb nd A B k2 i (min i (nd.kids.length - 2)) deep b1 b2 w hI ht hst hn (by omega) (by omega) rfl d2 d3 d1 (ok.one (by intro e; rw [e] at hlen; simp at hlen; omega)) ok.kk bA bB hB2 okJ hd (by omega) hrm).mono ?_
    rintro e w' ⟨rfl, σ', S', nd', hI', hN', hK', hS', hres⟩
    refine ⟨rfl, σ', S', nd', ?_⟩
    rcases hres with ⟨s1, s2, s3, rfl, rfl⟩ | ⟨ps, zs, hspr, hput, rfl⟩
    · refine ⟨R, bs, hI', hN', hR, ?_, Chg.refl hall, ok, by omega, hK', hS'⟩
      rw [hP.row, hP.cs, hP.bs]
      have tA : TrM σ' h 2 k1 (some k2) b1 ca (b1 :: xa') := trM_iff.2 ⟨A, xa', bA, okA, nA, by
        cases h with
        | zero => exact .inl rfl
        | succ h => exact .inr (by have := List.length_pos_iff.2 nA.1; omega), na, rfl⟩
      have tB : TrM σ' h 2 k2 (nextLo M hi) b2 cb (b2 :: xb') := trM_iff.2 ⟨B, xb', bB, okB, nB, by
        cases h with
        | zero => exact .inl rfl
        | succ h => exact .inr (by have := List.length_pos_iff.2 nB.1; omega), nb', rfl⟩
      exact RowL.append (m := (k1, b1) :: (k2, b2) :: M) ⟨ca, _, _, _, tA, ⟨cb, _, _, _, tB, hP.m, rfl, rfl⟩, rfl, rfl⟩ hP.l
    · obtain ⟨xs, q1, q2, q3, q4, q5⟩ := join_row hP okA okB bA.fits bB.fits nA nB kA kB na nb' hk2 c12 hcl hspr hput hnd
      have hRo := repl_rowOf (ps := ps) (by rw [← hLj] at *; exact dR) (.inr q3)
      rw [hLj] at hRo
      have hl2 : (L ++ pcRow k1 ps ++ M).length ≤ 1700 := by
        have := congrArg List.length hP.row
        simp only [List.length_append, List.length_cons, pcRow_length] at this ⊢
        omega
      refine ⟨_, _, hI', hN', hRo, q1, q2, ?_, by rw [hRo.len.1]; exact hl2, hK', hS'⟩
      refine hRo.ok ?_ ?_ (RowL.tops (fun _ _ _ _ _ ht => ht.top) q1) (by omega)
      · exact ok.one (by intro e; rw [e] at hlen; simp at hlen; omega)
      · exact repl_keys (fun k hk => by
          rcases List.mem_append.1 hk with hk | hk
          · exact ok.ky k (List.mem_of_mem_take hk)
          · exact ok.ky k (List.mem_of_mem_drop hk)) q4

theorem Mid.tops {σ : MSt} {h : Nat} {hi : Option ByteArray} {R : List (ByteArray × Int)} {i : Nat} {cs : List Pr} {bs : List Int} (hm : Mid σ h hi R i cs bs) : ∀ p ∈ R, 1 ≤ p.2 ∧ p.2 ≤ 4096 := by
  cases hm with
  | two hr => exact RowL.tops (fun _ _ _ _ _ ht => ht.top) hr
  | one q1 q2 q3 _ =>
    intro p hp
    rcases List.mem_append.1 hp with hp | hp
    · exact RowL.tops (fun _ _ _ _ _ ht => ht.top) q1 p hp
    · rcases List.mem_cons.1 hp with rfl | hp
      · exact q2.top
      · exact RowL.tops (fun _ _ _ _ _ ht => ht.top) q3 p hp

theorem Step.thenK {S S1 S2 : Nat → Prop} {w w3 w5 : World} {nb : Nat} (h : Step S S1 w w3) (hk : Keep (fun g => S1 g ∨ g = nb) w3 w5) (h2 : ∀ g, S2 g → S1 g ∨ w3.heap.size ≤ g) (hnb : w.heap.size ≤ nb) : Step S S2 w w5 :=
  ⟨h.1.trans hk (fun i hi x => x.elim (fun s => (h.2 i s).elim id (fun y => absurd hi (Nat.not_lt.2 y))) (fun e => absurd hi (Nat.not_lt.2 (by rw [e]; exact hnb)))),
   fun g hg => (h2 g hg).elim (fun s => h.2 g s) (fun y => .inr (Nat.le_trans h.1.size y))⟩

/-- the room of the kid -/
theorem kid_room {σ σ0 : MSt} {h : Nat} {k : ByteArray} {hi : Option ByteArray} {L M : List (ByteArray × Int)} {cl c cm : List Pr} {bl x bm : List Int} (hl : RowL (TrM σ h 2) (some k) L cl bl) (hm : RowL (TrM σ h 2) hi M cm bm) (hr : Room σ0 (bl ++ (x ++ bm)) ((cl ++ (c ++ cm)).length + 1)) : Room σ0 x (c.length + 1) := by
  have e1 := RowL.count (fun _ _ _ _ _ ht => TrM.count ht (Nat.le_refl 2)) hl
  have e2 := RowL.count (fun _ _ _ _ _ ht => TrM.count ht (Nat.le_refl 2)) hm
  have f1 := nh_le σ0 bl
  have f3 := nh_le σ0 bm
  unfold Room at *
  rw [nh_append, nh_append] at hr
  simp only [List.length_append] at hr
  omega
/-- the room of a node over its kids -/
theorem node_room {σ : MSt} {h : Nat} {hi : Option ByteArray} {lo : ByteArray} {nd : Nd} {R : List (ByteArray × Int)} {cs : List Pr} {bs : List Int} {n : Nat} (ok : nd.Ok) (hR : RowOf nd lo R) (hr : RowL (TrM σ h 2) hi R cs bs) (hm : Room σ bs n) (hn : cs.length ≤ n) : Maps.size σ.D + nd.room ≤ σ.most ∧ nd.room ≤ nd.kids.length := by
  have e1 := RowL.count (fun _ _ _ _ _ ht => TrM.count ht (Nat.le_refl 2)) hr
  have f1 := nh_le σ bs
  have hl := hR.len
  have hk : nd.kids ≠ [] := fun e => by rw [e] at hl; simp at hl; omega
  have hp := ok.one hk
  have : nd.room ≤ nd.kids.length := by
    have := List.length_pos_iff.2 hk
    simp [Nd.room, hp, hk]; omega
  unfold Room at hm
  exact ⟨by omega, this⟩

set_option maxRecDepth 100000 in
set_option maxHeartbeats 4000000 in
theorem edit_inner (t mp : Nat) (root err : Int) (key : ByteArray) (g : Nat) (cb : Array Value) (F : List Pr → List Pr) (vs : List (Nat × ByteArray)) (hF : LocF F key) (hks : key.size ≤ 128) (h : Nat) (ih : EditIH t mp root err key g cb F vs h) : EditIH t mp root err key g cb F vs (h + 1) := by
  intro σ S b deep least lo hi cs bs w hI ht hst hbx hT hn hw hd hd0 hR hl
  have hTc := hT.has
  obtain ⟨nd, L, k, kb, M, cl, c, cm, bl, x, bm, hE⟩ := ed_open hT hw
  have hFc := ed_loc hE hF
  have hb0 : (b == 0) = false := by have := hE.blk.lo; simp; omega
  have hlen := hE.row.len
  have hLM : L.length + M.length + 1 = nd.kids.length := by rw [hlen.1]; simp; omega
  have hkne : nd.kids ≠ [] := fun e => by have := hE.kids; rw [e] at this; simp at this
  have hke : nd.kids.isEmpty = false := by cases hq : nd.kids with | nil => exact absurd hq hkne | cons a b => rfl
  have hnk := hE.blk.fits.nk
  have hcs := hE.cs
  have hbs := hE.bs
  subst hbs
  have cg := chg_gone hI hE.blk.has
  have c0 : Chg σ (σ.gone b) (b :: (bl ++ (x ++ bm))) (bl ++ (x ++ bm)) := cg.left (us := [b]) (bs := []) (rs := bl ++ (x ++ bm)) hn (fun y hy => hTc y (List.mem_cons_of_mem _ hy))
  have n0 := c0.nd hn
  have R0 := c0.room hR
  rw [hcs] at R0
  have hbx0 : ∀ y ∈ bl ++ (x ++ bm), y ∉ [b] := fun y hy e => (List.nodup_cons.1 hn).1 (by rw [← List.mem_singleton.1 e]; exact hy)
  have hh0 : ∀ y ∈ bl ++ (x ++ bm), (σ.gone b).hasB y = true := fun y hy => (c0.new y hy).1
  have Rk := kid_room hE.l hE.m R0
  have T0 := hE.t.keep cg (fun y hy => hbx0 y (by simp [hy]))
  have l0 := hE.l.keep cg (fun y hy => hbx0 y (by simp [hy]))
  have m0 := hE.m.keep cg (fun y hy => hbx0 y (by simp [hy]))
  have hkz : ∀ y, nextLo M hi = some y → lt y k = false := fun y hy => by
    have hc := T0.content
    rw [hy] at hc
    obtain ⟨p, r, e⟩ := List.exists_cons_of_ne_nil hc.ne
    exact lt_asymm (hc.within p (by rw [e]; simp)).lo_lt
  have nx : x.Nodup := (List.nodup_append.1 (List.nodup_append.1 n0).2.1).1
  have HE := Lib.hid hE; clear hE
  have HFc := Lib.hid hFc; clear hFc
  have HCS := Lib.hid hcs; clear hcs
  have HR0 := Lib.hid R0; clear R0
  have HIH := Lib.hid ih; clear ih
  have HKZ := Lib.hid hkz; clear hkz
  have HB0 := Lib.hid hbx0; clear hbx0
  have HH0 := Lib.hid hh0; clear hh0
  have HTC := Lib.hid hTc; clear hTc hT
  have HLM := Lib.hid hLM; clear hLM
  have HLE := Lib.hid hlen; clear hlen
  have htl : t < w.heap.size := (Array.getElem?_eq_some_iff.1 ht).1
  have hid : kb = kb := rfl
  have hkid : nd.kids[L.length]? = some kb := by rw [HE.out.row.2]; simp
  obtain ⟨hil, hkid'⟩ := List.getElem?_eq_some_iff.1 hkid
  clear hkid hid
  have HKid := Lib.hid hkid'; clear hkid'
  have hil' : (L.length : Int) < (nd.kids.length : Int) := by omega
  have hkl : nd.keys.length ≤ 1000000 := by have := HE.out.ok.kk; omega
  have HAt := Lib.hid HE.out.at_
  go_enter Tryz.func33, Tryz.ntmps33
  go_wp2_with (first
    | (go_at_call 48; go_must ((refine (take_any t mp root err b deep σ S nd w hI ht hst HE.out.blk (by omega)).mono ?_); rintro e w1 ⟨nb, rfl, hn1, hI1, hs1⟩))
    | (go_at_call 37; go_must ((refine (leaf_any nb nd _ S hn1.isNode).mono ?_); rintro e w2 ⟨rfl, hw⟩; subst w2; rw [hke]))
    | (go_at_call 38; go_must ((refine (kid_any nb nd key _ S hn1.isNode HE.out.rise hkl).mono ?_); rw [← HAt.out]; rintro e w2 ⟨rfl, hb2⟩; refine Stop.of ?_)))
  refine Stop.on ?_
  have hs2 : Step S S w w2 := hs1.trans (Step.of_below hb2)
  have hN2 := hn1.isNode.below hb2
  have hI2 := hI1.below hb2
  have ht2 := ht.step hst hs2
  have hbx2 := hbx.step hs2
  have hnbw : w.heap.size ≤ nb := hn1.2.1
  obtain ⟨hSb, v0, v1, v2, bN, N0, N1, N2⟩ := id hN2
  obtain ⟨ao2, cp2, rfl, _, _, _, _⟩ := IsSl.form N2
  obtain ⟨pb, po, rfl, d2⟩ := N2.at rfl L.length hil
  rw [HKid.out] at d2
  have hpb := World.block_lt_of_cell? w2 _ d2
  obtain ⟨_, _, y2, _, _, _, ly⟩ := cells3 bN
  have hE1 := HIH.out (σ.gone b) S kb (deep + 1) key k (nextLo M hi) c x w2 hI2 ht2.1 hst hbx2 T0 nx HE.out.w (by omega) (by omega) Rk hks
  have HE1 := Lib.hid hE1; clear hE1
  go_wp2_with (first
    | (go_at_call 33; go_must (refine HE1.out.mono ?_; rintro e w3 ⟨v, ps, σ1, S1, x', m, rfl, hown, hP, hc1, hI3, hs3⟩; refine Stop.of ?_)))
  refine Stop.on ?_
  have hN3 := hN2.step hs3
  have hpl := hP.len
  have hRp := replace_any nb nd v ps L.length w3 S1 hI3.sub hN3 (HE.out.ok.one hkne) hown.isSl hil HE.out.ok.kk (by omega) (by omega)
  have HRp := Lib.hid hRp; clear hRp
  clear y2 d2 hpb
  go_wp2_with (first
    | (go_at_call 49; go_must (refine HRp.out.mono ?_; rintro e w4 ⟨rfl, hN4, hk4⟩; refine Stop.of ?_)))
  refine Stop.on ?_
  have hS1b : ¬ S1 nb := hN4.1
  have hI4 := hI3.keepM hk4 (fun g hg e => hS1b (by rw [← e]; exact hg))
  have ht3 := ht2.1.step ht2.2 hs3
  have hnbt : t ≠ nb := fun e => by rw [e] at htl; omega
  have ht4 : TreeAt w4 t mp root err := (hk4.block t (Array.getElem?_eq_some_iff.1 ht3.1).1 hnbt).trans ht3.1
  have hs4 : Step S S1 w w4 := (hs2.trans hs3).thenK (hk4.mono (fun _ _ h => .inr h)) (fun g hg => .inl hg) hnbw
  have cm1 := hc1.mid (ls := bl) (rs := bm) (by rw [List.append_assoc]; exact n0) (fun y hy => HH0.out y (by simp [hy])) (fun y hy => HH0.out y (by simp [hy]))
  rw [List.append_assoc, List.append_assoc] at cm1
  have hdl : ∀ y ∈ bl, y ∉ x := fun y hy hx => (List.nodup_append.1 n0).2.2 y hy y (List.mem_append_left _ hx) rfl
  have hdm : ∀ y ∈ bm, y ∉ x := fun y hy hx => (List.nodup_append.1 (List.nodup_append.1 n0).2.1).2.2 y hx y hy rfl
  obtain ⟨R, hRo, hMid, hRl⟩ := after_repl HE.out.row (l0.keep hc1 hdl) (m0.keep hc1 hdm) hP (by have := HLE.out.1; have := HE.out.kids; omega) HE.out.lo1 HKZ.out
  have hRl2 : R.length ≤ 1160 := by have := HLM.out; omega
  have ok1 : (nd.repl L.length ps).Ok := by
    exact hRo.ok (HE.out.ok.one hkne) (repl_keys HE.out.ok.ky hP.key) hMid.tops (by omega)
  have n1 := cm1.nd n0
  have R1 := cm1.room HR0.out
  have hFl : (cl ++ (F c ++ cm)).length ≤ (cl ++ (c ++ cm)).length + 1 := by
    have := hF.len c
    simp only [List.length_append]; omega
  have hJ := join_mid t mp root err σ1 S1 nb (nd.repl L.length ps) L.length (deep + 1) h hi lo R (cl ++ (F c ++ cm)) (bl ++ (x' ++ bm)) _ w4 hI4 ht4 (fun x => ht3.2 x) hN4 ok1 hRo hMid n1 (by omega) R1 hFl hRl2
  have HJ := Lib.hid hJ; clear hJ
  have HP := Lib.hid hP; clear hP
  have HRo := Lib.hid hRo; clear hRo hRl
  have HC := Lib.hid (c0.trans cm1)
  go_wp2_with (first
    | (go_at_call 50; go_must (refine HJ.out.mono ?_; rintro e w5 ⟨rfl, σ2, S2, n2, R2, bs2, hI5, hN5, hRo2, hr2, hc2, ok2, hl2, hk5, hS2⟩; refine Stop.of ?_)))
  refine Stop.on ?_
  have hs5 : Step S S2 w w5 := hs4.thenK hk5 hS2 hnbw
  have ht5 := ht.step hst hs5
  have R2' := hc2.room R1
  obtain ⟨rm1, rm2⟩ := node_room ok2 hRo2 hr2 R2' hFl
  have hRl2' := Lib.hid hRo2
  have HNL := Lib.hid rm2
  have HRM := Lib.hid rm1
  clear rm1 rm2 hRo2
  go_wp2_with (first
    | (go_at_call 46; go_must ((refine (spread_any t mp root err _ σ2 S2 nb n2 least w5 hI5 ht5.1 ht5.2 hN5 ok2 (Nat.lt_succ_self _) HRM.out).mono ?_); rintro e w6 ⟨v6, ps6, zs, σ3, S3, rfl, p2, p3, p4, p5, p6⟩)))
  go_ret
  have hkne2 : n2.kids ≠ [] := fun e => hRl2'.out.ne (by have := hRl2'.out.2; rw [e] at this; exact List.map_eq_nil_iff.1 this.symm)
  obtain ⟨m3, bs3, q1, q2⟩ := spr_pcs p3 (lo := lo) (hi := hi) (h := h + 1) (cs := cl ++ (F c ++ cm)) (bs := bs2) ok2 ⟨hkne2, by rw [hRl2'.out.row]; exact hr2⟩ p4 hI5.cln (hc2.nd n1) (RowL.has (fun _ _ _ _ _ ht => ht.has) hr2) hl (by have := HNL.out; have := ok2.one hkne2; simp [Nd.room, this, hkne2]; omega)
  refine ⟨v6, ps6, σ3, S3, bs3, m3, rfl, p2.base hs5.1.size, ?_, (HC.out.trans hc2).trans q2, p5, hs5.trans p6⟩
  rw [HFc.out]
  exact q1

theorem edit_any (t mp : Nat) (root err : Int) (key : ByteArray) (g : Nat) (cb : Array Value) (F : List Pr → List Pr) (vs : List (Nat × ByteArray)) (hent : ∀ args w, (callFunc g args).run Tryz.prog w = .ok (.enter g args) w) (hf : EditC g cb F vs) (hF : LocF F key) (hks : key.size ≤ 128) : ∀ h, EditIH t mp root err key g cb F vs h
  | 0 => edit_h0 t mp root err key g cb F vs hent hf hF
  | h + 1 => edit_inner t mp root err key g cb F vs hF hks h (edit_any t mp root err key g cb F vs hent hf hF hks h)
end Go.Proofs.YtbldcbakhpdigaaGreat

/- grow: any pieces. -/
namespace Go.Proofs.YtbldcbakhpdigaaGreat
open Go.RowKit

/-- the node that grow lays: its keys and kids so far -/
structure GN (w0 : World) (S : Nat → Prop) (nb : Nat) (ks : List ByteArray) (ns : List Int) (v1 v2 : Value) (wr : World) : Prop where
  bel : Below w0.heap.size w0 wr
  lo : w0.heap.size ≤ nb
  node : wr.heap[nb]? = some (.cells #[.slice none 0 0, v1, v2] 74 (0, 0))
  o1 : OwnSl wr S w0.heap.size 9 1 v1 ks.length (ks.map .string)
  o2 : OwnSl wr S w0.heap.size 3 1 v2 ns.length (ns.map (.int .i64))

theorem GN.lt {w0 : World} {S : Nat → Prop} {nb : Nat} {ks : List ByteArray} {ns : List Int} {v1 v2 : Value} {wr : World} (h : GN w0 S nb ks ns v1 v2 wr) : nb < wr.heap.size := (Array.getElem?_eq_some_iff.1 h.node).1
theorem GN.below {w0 : World} {S : Nat → Prop} {nb : Nat} {ks : List ByteArray} {ns : List Int} {v1 v2 : Value} {wr wr' : World} (h : GN w0 S nb ks ns v1 v2 wr) (hb : Below wr.heap.size wr wr') : GN w0 S nb ks ns v1 v2 wr' :=
  ⟨h.bel.trans (hb.mono h.bel.size), h.lo, (hb.block nb h.lt).trans h.node, h.o1.below hb, h.o2.below hb⟩
theorem GN.put2 {w0 : World} {S : Nat → Prop} {nb : Nat} {ks : List ByteArray} {ns ns' : List Int} {v1 v2 v2' : Value} {wr w' : World} (h : GN w0 S nb ks ns v1 v2 wr) (hk : Keep (fun g => v2.ownBlock = some g) wr w') (hb : Below w0.heap.size wr w') (ho : OwnSl w' S w0.heap.size 3 1 v2' ns'.length (ns'.map (.int .i64))) : GN w0 S nb ks ns' v1 v2' (w'.setCell ⟨nb, 2, none⟩ v2') := by
  have hn : w'.heap[nb]? = _ := (hk.block nb h.lt (h.o2.ne h.node (by decide))).trans h.node
  have hk5 : Keep (· = nb) w' (w'.setCell ⟨nb, 2, none⟩ v2') := Keep.setCell (M := (· = nb)) (p := ⟨nb, 2, none⟩) (Keep.refl _ _) (.inr rfl) _
  have h1 : OwnSl w' S w0.heap.size 9 1 v1 ks.length (ks.map .string) := h.o1.keep fun g hg hl hs => ⟨hk.block g hl (fun e => OwnSl.ne2 h.o1 h.o2 (by decide) g hg e), hs⟩
  refine ⟨(h.bel.trans hb).setCell (by exact h.lo) _, h.lo, by simp [World.setCell, Array.getElem?_modify, hn], h1.keep fun g hg hl hs => ⟨hk5.block g hl (fun e => h1.ne hn (by decide) (by rw [hg, e])), hs⟩, ho.keep fun g hg hl hs => ⟨hk5.block g hl (fun e => ho.ne hn (by decide) (by rw [hg, e])), hs⟩⟩
theorem GN.put1 {w0 : World} {S : Nat → Prop} {nb : Nat} {ks ks' : List ByteArray} {ns : List Int} {v1 v2 v1' : Value} {wr w' : World} (h : GN w0 S nb ks ns v1 v2 wr) (hk : Keep (fun g => v1.ownBlock = some g) wr w') (hb : Below w0.heap.size wr w') (ho : OwnSl w' S w0.heap.size 9 1 v1' ks'.length (ks'.map .string)) : GN w0 S nb ks' ns v1' v2 (w'.setCell ⟨nb, 1, none⟩ v1') := by
  have hn : w'.heap[nb]? = _ := (hk.block nb h.lt (h.o1.ne h.node (by decide))).trans h.node
  have hk5 : Keep (· = nb) w' (w'.setCell ⟨nb, 1, none⟩ v1') := Keep.setCell (M := (· = nb)) (p := ⟨nb, 1, none⟩) (Keep.refl _ _) (.inr rfl) _
  have h2 : OwnSl w' S w0.heap.size 3 1 v2 ns.length (ns.map (.int .i64)) := h.o2.keep fun g hg hl hs => ⟨hk.block g hl (fun e => OwnSl.ne2 h.o2 h.o1 (by decide) g hg e), hs⟩
  refine ⟨(h.bel.trans hb).setCell (by exact h.lo) _, h.lo, by simp [World.setCell, Array.getElem?_modify, hn], ho.keep fun g hg hl hs => ⟨hk5.block g hl (fun e => ho.ne hn (by decide) (by rw [hg, e])), hs⟩, h2.keep fun g hg hl hs => ⟨hk5.block g hl (fun e => h2.ne hn (by decide) (by rw [hg, e])), hs⟩⟩

/-- the tree at a root: nothing, or a tree whose inner nodes have two kids at least -/
def TrR (σ : MSt) (root : Int) (cs : List Pr) (bs : List Int) : Prop := (root = 0 ∧ cs = [] ∧ bs = []) ∨ ∃ h, TrM σ h 2 ⟨#[]⟩ none root cs bs

def GrowPost (mp : Nat) (σ : MSt) (S : Nat → Prop) (cs : List Pr) (bs : List Int) (w : World) (e : Ending) (w' : World) : Prop :=
  ∃ b σ' S' bs', e = .returned (.int .i64 b) ∧ TrR σ' b cs bs' ∧ Chg σ σ' bs bs' ∧ Inv σ' S' mp w' ∧ Step S S' w w'

def lenV : Value → Nat | .slice _ n _ => n | _ => 0

/-- the state of grow's first loop -/
def GR (mp : Nat) (σ0 : MSt) (S0 : Nat → Prop) (cs : List Pr) (bs0 : List Int) (w : World) (v : Value) (wr : World) : Prop :=
  ∃ ps h m σ S bs, IsPcs wr S v ps ∧ Pcs σ h m ⟨#[]⟩ none ps cs bs ∧ Chg σ0 σ bs0 bs ∧ Inv σ S mp wr ∧ Step S0 S w wr

set_option maxRecDepth 100000 in
set_option maxHeartbeats 8000000 in
theorem grow_any (t mp : Nat) (root err : Int) (σ : MSt) (v : Value) (ps : List Pc) (h m : Nat) (cs : List Pr) (bs : List Int) (n : Nat) (S : Nat → Prop) (w : World) (hI : Inv σ S mp w) (ht : TreeAt w t mp root err) (hst : ¬ S t) (hv : IsPcs w S v ps) (hP : Pcs σ h m ⟨#[]⟩ none ps cs bs) (hn : bs.Nodup) (hR : Room σ bs n) (hcs : cs.length ≤ n) :
    Calls Tryz.prog 32 #[.pointer (some ⟨t, 0, none⟩), v] w (GrowPost mp σ S cs bs w) := by
  have hb0 : ∀ x ∈ bs, σ.hasB x = true := RowL.has (fun _ _ _ _ _ ht => ht.has) hP.row
  have htl : t < w.heap.size := (Array.getElem?_eq_some_iff.1 ht).1
  go_enter Tryz.func32, Tryz.ntmps32
  go_wp2
  go_loopw [1, 5, 6, 7] (fun l _ _ _ wr => GR mp σ S cs bs w l wr) (fun l _ _ _ _ => lenV l)
  case atStart => exact ⟨ps, h, m, σ, S, bs, hv, hP, Chg.refl hb0, hI, Step.refl S w⟩
  case round =>
    obtain ⟨wo, rfl⟩ : ∃ x : World, x = wr := ⟨_, rfl⟩
    obtain ⟨ps, h, m, σ1, S1, bs1, hv1, hP1, hC1, hI1, hs1⟩ := hrel
    have HP1 := Lib.hid hP1
    have HC1 := Lib.hid hC1
    have hlen := hP1.len
    clear hP1 hC1 hb0 hP hv hI
    have ht1 := ht.step hst hs1
    obtain ⟨pao, pc, rfl, _, _, _, _⟩ := IsSl.form hv1
    by_cases h1 : 1 < ps.length
    · have x1 : (1 : Int) < (ps.length : Int) := by omega
      have hb0 := below_one wo (.cells #[.slice none 0 0, .slice none 0 0, .slice none 0 0] 74)
      have hG0 : GN wo S1 wo.heap.size [] [] (.slice none 0 0) (.slice none 0 0) (wo.alloc (.cells #[.slice none 0 0, .slice none 0 0, .slice none 0 0] 74)) :=
        ⟨hb0, Nat.le_refl _, heap_alloc_new wo _, OwnSl.nil _ _ _ _ _, OwnSl.nil _ _ _ _ _⟩
      obtain ⟨pb, po, rfl⟩ : ∃ pb po, pao = some ⟨pb, po, none⟩ := by
        obtain ⟨b, o, e, _⟩ := hv1.at rfl 0 (by omega)
        exact ⟨b, o, e⟩
      go_wp2_with fail
      go_loopw [6, 7, 19] (fun _ _ i wk => ∃ (k : Nat) (v1 v2 : Value), k ≤ ps.length ∧ i = .int .i64 k ∧ GN wo S1 wo.heap.size (((ps.take k).drop 1).map (·.2)) ((ps.take k).map (·.1)) v1 v2 wk) (fun _ _ i _ => ps.length - (intOf i).toNat)
      case atStart => exact ⟨0, _, _, Nat.zero_le _, rfl, by simpa using hG0⟩
      case round =>
        obtain ⟨k, v1, v2, hk, rfl, hG⟩ := hrel
        by_cases hlt : k < ps.length
        · obtain ⟨ns, hns⟩ : ∃ ns, ns = (ps.take k).map (·.1) := ⟨_, rfl⟩
          obtain ⟨ks, hks⟩ : ∃ ks, ks = ((ps.take k).drop 1).map (·.2) := ⟨_, rfl⟩
          have hnl : ns.length = k := by rw [hns]; simp; omega
          have hkl : ks.length = k - 1 := by rw [hks]; simp; omega
          rw [← hns, ← hks] at hG
          have hns2 : (ps.take (k + 1)).map (·.1) = ns ++ [ps[k].1] := by rw [hns, List.take_succ_eq_append_getElem hlt, List.map_append]; rfl
          have HNS := Lib.hid hns2; clear hns hns2
          have hks2 : ((ps.take (k + 1)).drop 1).map (·.2) = if k = 0 then ks else ks ++ [ps[k].2] := by
            rw [hks, List.take_succ_eq_append_getElem hlt]
            split
            · rename_i e; subst e; simp
            · rw [List.drop_append_of_le_length (by simp; omega), List.map_append]; rfl
          have HKS := Lib.hid hks2; clear hks hks2
          obtain ⟨_, _, e, d1, d2⟩ := hv1.at rfl k hlt
          cases e
          have d1' := (hG.bel.cell (p := ⟨pb, po + k * 2, none⟩) (World.block_lt_of_cell? wo _ d1)).trans d1
          have d2' := (hG.bel.cell (p := ⟨pb, po + k * 2 + 1, none⟩) (World.block_lt_of_cell? wo _ d2)).trans d2
          have hpb := World.block_lt_of_cell? wr _ d1'
          have hlti : (k : Int) < (ps.length : Int) := by omega
          have hGA := (hG.below (below_one wr (.cells #[.int .i64 ps[k].1, .string ps[k].2] 99)))
          have hPA : (wr.alloc (.cells #[.int .i64 ps[k].1, .string ps[k].2] 99)).heap[wr.heap.size]? = some (.cells #[.int .i64 ps[k].1, .string ps[k].2] 99 (0, 0)) := heap_alloc_new wr _
          clear d1 d2
          go_wp2_with fail
          generalize wr.alloc (.cells #[.int .i64 ps[k].1, .string ps[k].2] 99) = wA at hGA hPA ⊢
          have hqb : wo.heap.size ≤ wr.heap.size := hG.bel.size
          have hqn : wo.heap.size < wr.heap.size := hG.lt
          clear d1' d2' hpb hG
          generalize wr.heap.size = qb at hPA hqb hqn ⊢
          have hsub := hI1.sub
          have o2 := hGA.o2
          rw [hnl] at o2
          obtain ⟨ao2, c2, rfl, _, _, _, _⟩ := IsSl.form o2.isSl
          obtain ⟨_, _, y2, _, _, _, ly⟩ := cells3 hGA.node
          obtain ⟨z0, z1, lz⟩ : wA.cell? ⟨qb, 0, none⟩ = some (.int .i64 ps[k].1) ∧ wA.cell? ⟨qb, 1, none⟩ = some (.string ps[k].2) ∧ qb < wA.heap.size := ⟨by simp [World.cell?, hPA], by simp [World.cell?, hPA], (Array.getElem?_eq_some_iff.1 hPA).1⟩
          refine wp_region_ord (fun W => W.cell? ⟨wo.heap.size, 2, none⟩ = some (.slice ao2 k c2) ∧ wo.heap.size < W.heap.size ∧ W.cell? ⟨qb, 0, none⟩ = some (.int .i64 ps[k].1) ∧ qb < W.heap.size) (fun i => !([7, 8, 11].contains i)) [0, 1, 2, 3, 4, 5, 6, 7, 8, 9, 10, 11] rfl (by kernel_rfl) ⟨y2, ly, z0, lz⟩ ?_
          repeat ((refine ord_q (v := ?_) rfl rfl (fun _ _ _ h => h) rfl (fun W hW => ?_) ?_); rotate_left; (focus ((try dsimp only at hW); obtain ⟨q0, q1, q2, q3⟩ := hW; first | (go_simp; first | done | with_reducible rfl))); (try simp only [Act.put, List.setIfInBounds_toArray, List.set_cons_zero, List.set_cons_succ]))
          refine ord_e rfl rfl rfl ?_; intro K hK; go_simp
          have hbB := (below_one wA (.cells #[.int .i64 ps[k].1] 3)).drew
          have hGB := hGA.below hbB
          have oB := o2.below hbB
          obtain ⟨_, _, y2, _, _, _, ly⟩ := cells3 hGB.node
          have z0B := (hbB.cell (p := ⟨qb, 0, none⟩) lz).trans z0
          have lzB := Nat.lt_of_lt_of_le lz hbB.size
          refine hK.out _ _ ⟨y2, ly, z0B, lzB⟩ ?_
          (try simp only [Act.put, List.setIfInBounds_toArray, List.set_cons_zero, List.set_cons_succ])
          have hPB := (hbB.block qb lz).trans hPA
          have hsrc : Src Tryz.prog 1 36 (.slice (some ⟨wA.heap.size, 0, none⟩) 1 1) 1 [.int .i64 ps[k].1] (wA.alloc (.cells #[.int .i64 ps[k].1] 3)).drew := (own_new (w := wA) (S := S1) (B := wo.heap.size) (e := 3) (k := 1) [.int .i64 ps[k].1] 1 1 rfl rfl (Nat.le_refl _) (by simp [maxLen]) hGA.bel.size (fun g hg => Nat.lt_of_lt_of_le (hsub g hg) hGA.bel.size)).drew.isSl.src Tryz.underlying36 (by intro u hu; rw [List.mem_singleton.1 hu]; rfl)
          have hsubB : ∀ g, S1 g → g < (wA.alloc (.cells #[.int .i64 ps[k].1] 3)).drew.heap.size := fun g hg => Nat.lt_of_lt_of_le (Nat.lt_of_lt_of_le (hsub g hg) hGA.bel.size) hbB.size
          have hszB := hGB.bel.size
          generalize (wA.alloc (.cells #[.int .i64 ps[k].1] 3)).drew = wB at hGB oB hPB hsrc hsubB hszB ⊢
          refine ord_e rfl rfl rfl ?_; intro K hK
          refine wp_app (.tmp 28) (.tmp 31) 36 36 rfl S1 wo.heap.size 3 1 8 _ Tryz.underlying36 info_int rfl (.slice ao2 k c2) k (ns.map (.int .i64)) rfl oB (.slice (some ⟨wA.heap.size, 0, none⟩) 1 1) 1 [.int .i64 ps[k].1] rfl hsrc hsubB hszB (by unfold maxLen; omega) (by omega) ?_
          intro ao3 c3 w3 hown3 hk3 hb3 hd3
          have hG3 := hGB.put2 hk3 hb3 (ns' := ns ++ [ps[k].1]) (v2' := .slice ao3 (k + 1) c3) (by rw [List.length_append, List.length_singleton, hnl, List.map_append]; exact hown3)
          have hN3 : w3.heap[wo.heap.size]? = _ := (hk3.block _ hGB.lt (hGB.o2.ne hGB.node (by decide))).trans hGB.node
          have hP3 : w3.heap[qb]? = _ := (hk3.block qb (Array.getElem?_eq_some_iff.1 hPB).1 (oB.ne hPB (by decide))).trans hPB
          obtain ⟨_, _, y2, _, _, yf, ly⟩ := cells3 hN3
          have z3 : w3.cell? ⟨qb, 0, none⟩ = some (.int .i64 ps[k].1) := by simp [World.cell?, hP3]
          have l3 := (Array.getElem?_eq_some_iff.1 hP3).1
          refine hK.out _ _ ⟨y2, ly, z3, l3⟩ ?_
          (try simp only [Act.put, List.setIfInBounds_toArray, List.set_cons_zero, List.set_cons_succ])
          repeat ((refine ord_q (v := ?_) rfl rfl (fun _ _ _ h => h) rfl (fun W hW => ?_) ?_); rotate_left; (focus ((try dsimp only at hW); obtain ⟨q0, q1, q2, q3⟩ := hW; first | (go_simp; first | done | with_reducible rfl))); (try simp only [Act.put, List.setIfInBounds_toArray, List.set_cons_zero, List.set_cons_succ]))
          refine ord_l rfl rfl rfl (by kernel_rfl) ?_; intro K hK; go_simp
          refine hK.out _ _ ?_
          refine ord_nil ?_
          have hk4 : Keep (· = wo.heap.size) w3 (w3.setCell ⟨wo.heap.size, 2, none⟩ (.slice ao3 (k + 1) c3)) := Keep.setCell (M := (· = wo.heap.size)) (p := ⟨wo.heap.size, 2, none⟩) (Keep.refl _ _) (.inr rfl) _
          have hP4 := (hk4.block qb l3 (by omega)).trans hP3
          generalize w3.setCell ⟨wo.heap.size, 2, none⟩ (.slice ao3 (k + 1) c3) = w4 at hG3 hP4 ⊢
          clear hk4 hN3 hP3 hGB oB hPB hsrc hsubB hGA hPA o2 hown3 hk3 hb3 hd3 y2 yf ly z3 l3 z0 z1 lz z0B lzB hbB hszB
          by_cases hk0 : k = 0
          · have x2 : ¬ (0 : Int) < (k : Int) := by omega
            have HK0 := Lib.hid hk0; clear hk0
            go_wp2_with fail
            go_roundw
            case rel => exact ⟨k + 1, _, _, by omega, by go_num, by rw [HNS.out, HKS.out, if_pos HK0.out]; exact hG3⟩
            case measure => simp [intOf]; omega
          · have x2 : (0 : Int) < (k : Int) := by omega
            have hkn : k - 1 + 1 = k := by omega
            have HK0 := Lib.hid hk0; clear hk0
            have o1 := hG3.o1
            rw [hkl] at o1
            have v14 : IsSl w4 S1 1 v1 (k - 1) (ks.map .string) := o1.isSl
            obtain ⟨ao5, c5, rfl, _, _, _, _⟩ := IsSl.form v14
            clear v14
            obtain ⟨_, y1, _, _, _, _, ly⟩ := cells3 hG3.node
            obtain ⟨z1, lz⟩ : w4.cell? ⟨qb, 1, none⟩ = some (.string ps[k].2) ∧ qb < w4.heap.size := ⟨by simp [World.cell?, hP4], (Array.getElem?_eq_some_iff.1 hP4).1⟩
            go_wp2_with fail
            refine wp_region_ord (fun W => W.cell? ⟨wo.heap.size, 1, none⟩ = some (.slice ao5 (k - 1) c5) ∧ wo.heap.size < W.heap.size ∧ W.cell? ⟨qb, 1, none⟩ = some (.string ps[k].2) ∧ qb < W.heap.size) (fun i => !([7, 8, 11].contains i)) [0, 1, 2, 3, 4, 5, 6, 7, 8, 9, 10, 11] rfl (by kernel_rfl) ⟨y1, ly, z1, lz⟩ ?_
            repeat ((refine ord_q (v := ?_) rfl rfl (fun _ _ _ h => h) rfl (fun W hW => ?_) ?_); rotate_left; (focus ((try dsimp only at hW); obtain ⟨q0, q1, q2, q3⟩ := hW; first | (go_simp; first | done | with_reducible rfl))); (try simp only [Act.put, List.setIfInBounds_toArray, List.set_cons_zero, List.set_cons_succ]))
            refine ord_e rfl rfl rfl ?_; intro K hK; go_simp
            have hbB := (below_one w4 (.cells #[.string ps[k].2] 9)).drew
            have hGB := hG3.below hbB
            have oB := o1.below hbB
            obtain ⟨_, y1, _, _, _, _, ly⟩ := cells3 hGB.node
            have z1B := (hbB.cell (p := ⟨qb, 1, none⟩) lz).trans z1
            have lzB := Nat.lt_of_lt_of_le lz hbB.size
            refine hK.out _ _ ⟨y1, ly, z1B, lzB⟩ ?_
            (try simp only [Act.put, List.setIfInBounds_toArray, List.set_cons_zero, List.set_cons_succ])
            have hPB := (hbB.block qb lz).trans hP4
            have hsrc : Src Tryz.prog 1 72 (.slice (some ⟨w4.heap.size, 0, none⟩) 1 1) 1 [.string ps[k].2] (w4.alloc (.cells #[.string ps[k].2] 9)).drew := (own_new (w := w4) (S := S1) (B := wo.heap.size) (e := 9) (k := 1) [.string ps[k].2] 1 1 rfl rfl (Nat.le_refl _) (by simp [maxLen]) hG3.bel.size (fun g hg => Nat.lt_of_lt_of_le (hsub g hg) hG3.bel.size)).drew.isSl.src Tryz.underlying72 (by intro u hu; rw [List.mem_singleton.1 hu]; rfl)
            have hsubB : ∀ g, S1 g → g < (w4.alloc (.cells #[.string ps[k].2] 9)).drew.heap.size := fun g hg => Nat.lt_of_lt_of_le (Nat.lt_of_lt_of_le (hsub g hg) hG3.bel.size) hbB.size
            have hszB := hGB.bel.size
            generalize (w4.alloc (.cells #[.string ps[k].2] 9)).drew = wB at hGB oB hPB hsrc hsubB hszB ⊢
            refine ord_e rfl rfl rfl ?_; intro K hK
            refine wp_app (.tmp 41) (.tmp 44) 72 72 rfl S1 wo.heap.size 9 1 16 _ Tryz.underlying72 info_str rfl (.slice ao5 (k - 1) c5) (k - 1) (ks.map .string) rfl oB (.slice (some ⟨w4.heap.size, 0, none⟩) 1 1) 1 [.string ps[k].2] rfl hsrc hsubB hszB (by unfold maxLen; omega) (by omega) ?_
            intro ao6 c6 w6 hown6 hk6 hb6 hd6
            have hG6 := hGB.put1 hk6 hb6 (ks' := ks ++ [ps[k].2]) (v1' := .slice ao6 (k - 1 + 1) c6) (by rw [List.length_append, List.length_singleton, hkl, List.map_append]; exact hown6)
            have hN6 : w6.heap[wo.heap.size]? = _ := (hk6.block _ hGB.lt (hGB.o1.ne hGB.node (by decide))).trans hGB.node
            have hP6 : w6.heap[qb]? = _ := (hk6.block qb (Array.getElem?_eq_some_iff.1 hPB).1 (oB.ne hPB (by decide))).trans hPB
            obtain ⟨_, y1, _, _, yf, _, ly⟩ := cells3 hN6
            have z6 : w6.cell? ⟨qb, 1, none⟩ = some (.string ps[k].2) := by simp [World.cell?, hP6]
            have l6 := (Array.getElem?_eq_some_iff.1 hP6).1
            refine hK.out _ _ ⟨y1, ly, z6, l6⟩ ?_
            (try simp only [Act.put, List.setIfInBounds_toArray, List.set_cons_zero, List.set_cons_succ])
            repeat ((refine ord_q (v := ?_) rfl rfl (fun _ _ _ h => h) rfl (fun W hW => ?_) ?_); rotate_left; (focus ((try dsimp only at hW); obtain ⟨q0, q1, q2, q3⟩ := hW; first | (go_simp; first | done | with_reducible rfl))); (try simp only [Act.put, List.setIfInBounds_toArray, List.set_cons_zero, List.set_cons_succ]))
            refine ord_l rfl rfl rfl (by kernel_rfl) ?_; intro K hK; go_simp
            refine hK.out _ _ ?_
            refine ord_nil ?_
            rw [hkn] at hG6
            clear y1 yf ly z6 l6 hN6 hP6 hGB oB hPB hsrc hsubB hown6 hk6 hb6 hd6 hszB
            go_wp2_with fail
            go_roundw
            case rel => exact ⟨k + 1, _, _, by omega, by go_num, by rw [HNS.out, HKS.out, if_neg HK0.out]; exact hG6⟩
            case measure => simp [intOf]; omega
        · obtain rfl : k = ps.length := by omega
          rw [List.take_length] at hG
          have x2 : ¬ (ps.length : Int) < (ps.length : Int) := by omega
          have hRo : RowOf ⟨[], (ps.drop 1).map (·.2), ps.map (·.1)⟩ ⟨#[]⟩ (pcRow ⟨#[]⟩ ps) := by
            constructor
            · rw [pcRow_fst]
              cases ps with
              | nil => simp at h1
              | cons p r => simp [moreL]
            · rw [pcRow_snd]
          have hm2 : m = 2 := HP1.out.single.resolve_right (by omega)
          subst hm2
          have ok : Nd.Ok ⟨[], (ps.drop 1).map (·.2), ps.map (·.1)⟩ := hRo.ok rfl (fun k hk => by
            obtain ⟨p, hp, rfl⟩ := List.mem_map.1 hk
            exact HP1.out.key p (List.mem_of_mem_drop hp)) (RowL.tops (fun _ _ _ _ _ ht => ht.top) HP1.out.row) (by rw [pcRow_length]; omega)
          have hkne : (ps.map (·.1)) ≠ [] := fun e => by rw [List.map_eq_nil_iff.1 e] at h1; simp at h1
          obtain ⟨rm1, rm2⟩ := node_room ok hRo HP1.out.row (HC1.out.room hR) hcs
          have hnode : IsNode wr S1 wo.heap.size ⟨[], (ps.drop 1).map (·.2), ps.map (·.1)⟩ := ⟨fun hs => absurd (hI1.sub _ hs) (Nat.lt_irrefl _), _, _, _, hG.node, IsSl.nil _ _ _, hG.o1.isSl, hG.o2.isSl⟩
          have hIr := hI1.below hG.bel
          have htr := ht1.1.step ht1.2 (Step.of_below (S := S1) hG.bel)
          obtain ⟨_, _, e, d1, d2⟩ := hv1.at rfl 0 (by omega)
          cases e
          rw [Nat.zero_mul, Nat.add_zero] at d2
          have d2' := (hG.bel.cell (p := ⟨pb, po + 1, none⟩) (World.block_lt_of_cell? wo _ d2)).trans d2
          have hpb := World.block_lt_of_cell? wr _ d2'
          have hlp : (0 : Int) < (ps.length : Int) := by omega
          have hlp2 : 0 < ps.length := by omega
          have hRM := Lib.hid rm1
          have HRO := Lib.hid hRo
          have hroom2 := Lib.hid rm2
          clear rm1 rm2 hRo d1 d2
          go_wp2_with (first
            | (go_at_call 46; go_must ((refine (spread_any t mp root err _ σ1 S1 wo.heap.size ⟨[], (ps.drop 1).map (·.2), ps.map (·.1)⟩ _ wr hIr htr.1 htr.2 hnode ok (Nat.lt_succ_self _) hRM.out).mono ?_); rintro e w6 ⟨v6, ps6, zs, σ3, S3, rfl, p2, p3, p4, p5, p6⟩)))
          obtain ⟨m3, bs3, q1, q2⟩ := spr_pcs p3 (lo := ⟨#[]⟩) (hi := none) (h := h + 1) (cs := cs) (bs := bs1) ok ⟨hkne, by rw [HRO.out.row]; exact HP1.out.row⟩ p4 hI1.cln (HC1.out.nd hn) (RowL.has (fun _ _ _ _ _ ht => ht.has) HP1.out.row) (HP1.out.key _ (List.getElem_mem hlp2)) (by have := hroom2.out; simp at this ⊢; omega)
          have hl6 : ps6.length < ps.length := by
            have e1 := p3.room ok
            have e2 := p4.length.1
            simp [Nd.room] at e1
            have : ¬ ps = [] := fun e => by rw [e] at h1; simp at h1
            rw [if_neg this] at e1
            omega
          go_roundw
          case rel => exact ⟨ps6, h + 1, m3, σ3, S3, bs3, p2.isSl, q1, HC1.out.trans q2, p5, (hs1.trans (Step.of_below hG.bel)).trans p6⟩
          case measure =>
            obtain ⟨ao6, c6, rfl, _⟩ := IsSl.form p2.isSl
            exact hl6
    · have x1 : ¬ (1 : Int) < (ps.length : Int) := by omega
      by_cases h0 : ps.length = 0
      · have x0 : (ps.length : Int) = 0 := by omega
        have hp0 : ps = [] := List.eq_nil_of_length_eq_zero h0
        subst hp0
        obtain ⟨hc0, hb0⟩ := HP1.out.row
        have HC0 := Lib.hid hc0
        have HB0 := Lib.hid hb0
        clear hc0 hb0 h0 x0
        go_wp2_with fail
        go_ret
        exact ⟨0, σ1, S1, bs1, rfl, .inl ⟨rfl, HC0.out, HB0.out⟩, HC1.out, hI1, hs1⟩
      · have h11 : ps.length = 1 := by omega
        obtain ⟨p, hp⟩ : ∃ p, ps = [p] := List.length_eq_one_iff.1 h11
        subst hp
        obtain ⟨c1, c2, y1, y2, hT, ⟨hc2, hy2⟩, hc, hy⟩ := HP1.out.row
        subst hc2 hy2
        rw [List.append_nil] at hc hy
        subst hc hy
        have HT := Lib.hid hT; clear hT
        obtain ⟨pb, po, e, d1, d2⟩ := hv1.at rfl 0 (Nat.lt_succ_self 0)
        subst e
        have d1' : wo.cell? ⟨pb, po, none⟩ = some (.int .i64 p.1) := d1
        have hpl : pb < wo.heap.size := World.block_lt_of_cell? wo _ d1
        clear d1 d2 h0 h11 h1
        go_wp2_with fail
        go_loopw [8, 9, 10, 11] (fun x y _ _ wx => ∃ (b : Int) (d h m : Nat) (σ2 : MSt) (S2 : Nat → Prop) (bs2 : List Int), x = .int .i64 b ∧ y = .int .i64 d ∧ TrM σ2 h m ⟨#[]⟩ none b cs bs2 ∧ (m = 2 ∨ d = 0) ∧ d ≤ 1 ∧ Chg σ σ2 bs bs2 ∧ Inv σ2 S2 mp wx ∧ Step S S2 w wx) (fun _ y _ _ _ => 2 - (intOf y).toNat)
        case atStart => exact ⟨p.1, 0, h, m, σ1, S1, _, rfl, rfl, HT.out, .inr rfl, by omega, HC1.out, hI1, hs1⟩
        case round =>
          obtain ⟨wo2, rfl⟩ : ∃ x : World, x = wr := ⟨_, rfl⟩
          obtain ⟨b, d, h2, m2, σ2, S2, bs2, rfl, rfl, hT2, hmd, hd1, hC2, hI2, hs2⟩ := hrel
          obtain ⟨nd, bs3, hB, ok, hNr, hKd, hne, rfl⟩ := trM_iff.1 hT2
          have HT2 := Lib.hid hT2; clear hT2
          have HC2 := Lib.hid hC2; clear hC2
          have ht2 := ht.step hst hs2
          have hd40 : (d : Int) ≤ 40 := by omega
          have hnk := hB.fits.nk
          by_cases hk1 : nd.kids.length = 1
          · obtain ⟨h3, rfl⟩ : ∃ h3, h2 = h3 + 1 := by
              cases h2 with
              | zero => have := hNr.1; rw [this] at hk1; simp at hk1
              | succ h3 => exact ⟨h3, rfl⟩
            have hd0 : d = 0 := hmd.resolve_left (fun e => by
              have := hKd.resolve_left (by omega)
              omega)
            have x1 : (nd.kids.length : Int) = 1 := by omega
            have HK1 := Lib.hid hk1
            have HD0 := Lib.hid hd0
            have hrow := rowOf ok hNr.1 ⟨#[]⟩
            obtain ⟨b0, l, e, e2, e3⟩ := zip_lows ok.kk hNr.1 ⟨#[]⟩
            have hl0 : l = [] := by
              have := congrArg List.length e3
              simp at this
              exact List.eq_nil_of_length_eq_zero (by omega)
            subst hl0
            have hr2 := hNr.2
            unfold Nd.row at hr2
            rw [e] at hr2
            obtain ⟨c1, c2, y1, y2, hT3, ⟨hc2, hy2⟩, hc, hy⟩ := hr2
            subst hc2 hy2
            rw [List.append_nil] at hc hy
            subst hc hy
            have E3 := Lib.hid e3
            clear e e2 e3 hk1 hd0 hrow
            have cg := chg_gone hI2 hB.has
            have hnd3 := HC2.out.nd hn
            have cl := cg.left (us := [b]) (bs := []) (rs := bs3) hnd3 (fun x hx => HT2.out.has x (List.mem_cons_of_mem _ hx))
            have hT4 := hT3.keep cg (fun y hy e => (List.nodup_cons.1 hnd3).1 (by rw [← List.mem_singleton.1 e]; exact hy))
            have hwf := wf_nat b (by have := hB.lo; omega) (by have := hB.hi; omega)
            have hm : ∀ w, (method 277 24 (.pointer (some ⟨mp, 0, none⟩)) "Free").run Tryz.prog w = .ok (120, .pointer (some ⟨mp, 0, none⟩)) w := fun _ => by kernel_rfl
            go_wp2_with (first
              | (go_at_call 23; go_must ((refine (load_any t mp root err b d σ2 S2 nd _ hI2 ht2.1 hB hd40).mono ?_); rintro e w1 ⟨nb, rfl, hn1, hb1⟩))
              | (go_at_call 47; go_must ((refine (must_ok _).mono ?_); rintro e w2 ⟨rfl, hw⟩; subst w2; refine Stop.of ?_)))
            refine Stop.on ?_
            obtain ⟨_, v0, v1, v2, bN, _, _, N2⟩ := hn1.isNode
            obtain ⟨ao2, cp2, rfl, _, _, _, _⟩ := IsSl.form N2
            obtain ⟨_, _, y2, _, _, _, ly⟩ := cells3 bN
            obtain ⟨tc0, _, _, _, _, _, tl0⟩ := cells3 ((hb1.block t (Array.getElem?_eq_some_iff.1 ht2.1).1).trans ht2.1)
            go_wp2_with (first
              | (go_at_call 120; go_must ((refine (free_any mp σ2 S2 w1 b (hI2.below hb1) hwf hB.has).mono ?_); rintro e w3 ⟨rfl, hI3, hs3⟩; refine Stop.of ?_)))
            refine Stop.on ?_
            obtain ⟨_, v0', v1', v2', bN3, _, _, N23⟩ := hn1.isNode.step hs3
            obtain ⟨ao3, cp3, rfl, _, _, _, _⟩ := IsSl.form N23
            obtain ⟨pb2, po2, rfl, d2⟩ := N23.at rfl 0 (by rw [HK1.out]; exact Nat.lt_succ_self 0)
            have hk0 : nd.kids[0]'(by rw [HK1.out]; exact Nat.lt_succ_self 0) = b0 := by
              have := E3.out
              simp at this
              simp [this]
            rw [hk0, Nat.add_zero] at d2
            obtain ⟨_, _, y2, _, _, _, ly⟩ := cells3 bN3
            have hp2 := World.block_lt_of_cell? w3 _ d2
            go_wp2_with (first
              | (go_at_call 47; go_must ((refine (must_ok _).mono ?_); rintro e w2 ⟨rfl, hw⟩; subst w2)))
            go_roundw
            case rel => exact ⟨b0, d + 1, h3, 2, σ2.gone b, S2, bs3, rfl, by go_num, hT4, .inl rfl, by have := HD0.out; omega, HC2.out.trans cl, hI3, (hs2.trans (Step.of_below hb1)).trans hs3⟩
            case measure => simp [intOf]; omega
          · have x1 : ¬ (nd.kids.length : Int) = 1 := by omega
            have x1' : ((nd.kids.length : Int) == 1) = false := by rw [beq_eq_false_iff_ne]; omega
            have HK1 := Lib.hid hk1; clear hk1
            go_wp2_with (first
              | (go_at_call 23; go_must ((refine (load_any t mp root err b d σ2 S2 nd _ hI2 ht2.1 hB hd40).mono ?_); rintro e w1 ⟨nb, rfl, hn1, hb1⟩))
              | (go_at_call 47; go_must ((refine (must_ok _).mono ?_); rintro e w2 ⟨rfl, hw⟩; subst w2; refine Stop.of ?_)))
            refine Stop.on ?_
            obtain ⟨_, v0, v1, v2, bN, _, _, N2⟩ := hn1.isNode
            obtain ⟨ao2, cp2, rfl, _, _, _, _⟩ := IsSl.form N2
            obtain ⟨_, _, y2, _, _, _, ly⟩ := cells3 bN
            go_wp2_with fail
            go_ret
            refine ⟨b, σ2, S2, _, rfl, .inr ⟨h2, trM_iff.2 ⟨nd, bs3, hB, ok, hNr, ?_, hne, rfl⟩⟩, HC2.out, hI2.below hb1, hs2.trans (Step.of_below hb1)⟩
            cases h2 with
            | zero => exact .inl rfl
            | succ h2 => exact .inr (by have := List.length_pos_iff.2 hNr.1; have := HK1.out; omega)
end Go.Proofs.YtbldcbakhpdigaaGreat

/- Put, Delete, Get, Scan on any tree. -/
namespace Go.Proofs.YtbldcbakhpdigaaGreat
open Go.RowKit

theorem posAt_none (c : List Pr) (key : ByteArray) (h : ∀ p ∈ c, lt key p.1 = true) : posAt c key = 0 := posAt_right [] c key h

theorem rowAll {σ : MSt} {key : ByteArray} {h : Nat} {hi : Option ByteArray} (hW : ∀ k z b c x, TrM σ h 2 k z b c x → WalkL σ key h b (c.drop (posAt c key))) : ∀ {l : List (ByteArray × Int)} {cs : List Pr} {bs : List Int}, RowL (TrM σ h 2) hi l cs bs → (∀ p ∈ cs, lt key p.1 = true) →
    ∃ Ls : List (List Pr), Ls.length = (l.map (·.2)).length ∧ (∀ i (h1 : i < (l.map (·.2)).length) (h2 : i < Ls.length), WalkL σ key h (l.map (·.2))[i] Ls[i]) ∧ Ls.flatten = cs
  | [], _, _, ⟨e, _⟩, _ => ⟨[], rfl, fun i h1 => absurd h1 (by simp), e.symm⟩
  | (k, b) :: l, _, _, hr, hp => by
    obtain ⟨c, cs', x, bs', h1, h2, rfl, rfl⟩ := hr
    obtain ⟨Ls, q1, q2, q3⟩ := rowAll hW h2 (fun p hp' => hp p (List.mem_append_right _ hp'))
    have hw := hW _ _ _ _ _ h1
    rw [posAt_none c key (fun p hp' => hp p (List.mem_append_left _ hp')), List.drop_zero] at hw
    refine ⟨c :: Ls, by simp at q1 ⊢; exact q1, fun i i1 i2 => ?_, by rw [List.flatten_cons, q3]⟩
    cases i with
    | zero => exact hw
    | succ i => exact q2 i (by simpa using i1) (by simpa using i2)

theorem rowWalk {σ : MSt} {key : ByteArray} {h : Nat} {hi : Option ByteArray} (hW : ∀ k z b c x, TrM σ h 2 k z b c x → WalkL σ key h b (c.drop (posAt c key))) : ∀ {r : List (ByteArray × Int)} {k : ByteArray} {b : Int} {cs : List Pr} {bs : List Int}, RowL (TrM σ h 2) hi ((k, b) :: r) cs bs →
    ∃ Ls : List (List Pr), Ls.length = ((b :: r.map (·.2)).drop (kidAt (r.map (·.1)) key)).length ∧ (∀ i (h1 : i < ((b :: r.map (·.2)).drop (kidAt (r.map (·.1)) key)).length) (h2 : i < Ls.length), WalkL σ key h ((b :: r.map (·.2)).drop (kidAt (r.map (·.1)) key))[i] Ls[i]) ∧ Ls.flatten = cs.drop (posAt cs key)
  | [], k, b, _, _, hr => by
    obtain ⟨c, cs', x, bs', h1, ⟨rfl, rfl⟩, rfl, rfl⟩ := hr
    refine ⟨[c.drop (posAt c key)], by simp [kidAt], fun i i1 i2 => ?_, by simp⟩
    have : i = 0 := by simp at i2; exact i2
    subst this
    exact hW _ _ _ _ _ h1
  | (k1, b1) :: r, k, b, _, _, hr => by
    obtain ⟨c, cs', x, bs', h1, h2, rfl, rfl⟩ := hr
    have hT : ∀ k z b c x, TrM σ h 2 k z b c x → Content k z c := fun _ _ _ _ _ ht => ht.content
    cases hlt : lt key k1 with
    | true =>
      have hc := RowL.content hT h2
      have hall : ∀ p ∈ cs', lt key p.1 = true := fun p hp => lt_le hlt (hc.within p hp).1
      obtain ⟨Ls, q1, q2, q3⟩ := rowAll hW h2 hall
      have e : kidAt (((k1, b1) :: r).map (·.1)) key = 0 := by simp [kidAt, hlt]
      simp only [e, List.drop_zero]
      refine ⟨c.drop (posAt c key) :: Ls, by simp at q1 ⊢; exact q1, fun i i1 i2 => ?_, ?_⟩
      · cases i with
        | zero => exact hW _ _ _ _ _ h1
        | succ i => exact q2 i (by simpa using i1) (by simpa using i2)
      · rw [List.flatten_cons, q3, posAt_right c cs' key hall, List.drop_append_of_le_length (posAt_le _ _)]
    | false =>
      obtain ⟨Ls, q1, q2, q3⟩ := rowWalk hW h2
      have e : kidAt (((k1, b1) :: r).map (·.1)) key = kidAt (r.map (·.1)) key + 1 := by simp [kidAt, hlt]
      have hall : ∀ p ∈ c, lt p.1 key = true := fun p hp => lt_le ((hT _ _ _ _ _ h1).within p hp |>.2 k1 rfl) hlt
      simp only [e, List.drop_succ_cons]
      refine ⟨Ls, by simpa using q1, fun i i1 i2 => q2 i (by simpa using i1) i2, ?_⟩
      rw [q3, posAt_left c cs' key hall, List.drop_append, List.drop_of_length_le (l := c) (by omega), Nat.add_sub_cancel_left, List.nil_append]

/-- what walk goes through is the content from the key on -/
theorem TrM.walk {σ : MSt} {key : ByteArray} : ∀ {h m : Nat} {lo : ByteArray} {hi : Option ByteArray} {b : Int} {cs : List Pr} {bs : List Int}, TrM σ h m lo hi b cs bs → WalkL σ key h b (cs.drop (posAt cs key))
  | 0, _, _, _, _, _, _, ⟨nd, h1, _, h3, h4, _, h6, _, _⟩ => by
    subst h4
    exact .leaf h1 h3 h6
  | h + 1, m, lo, hi, b, cs, bs, ⟨nd, bs', h1, h2, h3, _, _, h6⟩ => by
    have hkeys := TrM.rising h2 h3 h6
    obtain ⟨b0, l, e, e2, e3⟩ := zip_lows h2.kk h3 lo
    unfold Nd.row at h6
    rw [e] at h6
    obtain ⟨Ls, q1, q2, q3⟩ := rowWalk (key := key) (fun _ _ _ _ _ ht => TrM.walk ht) h6
    have e4 : (l.map (·.1)) = nd.keys := e2
    have e5 : b0 :: l.map (·.2) = nd.kids := e3.symm
    simp only [e4, e5] at q1 q2
    rw [← q3]
    exact .inner Ls h1 h3 hkeys q1 q2

theorem RowL.pow {T : ByteArray → Option ByteArray → Int → List Pr → List Int → Prop} {p : Nat} (hT : ∀ k z b c x, T k z b c x → p ≤ c.length) {hi : Option ByteArray} : ∀ {l : List (ByteArray × Int)} {cs : List Pr} {bs : List Int}, RowL T hi l cs bs → l.length * p ≤ cs.length
  | [], _, _, _ => by simp
  | (k, b) :: l, _, _, h => by
    obtain ⟨c, cs', x, bs', h1, h2, rfl, rfl⟩ := h
    have a := hT _ _ _ _ _ h1
    have b := RowL.pow hT h2
    simp only [List.length_append, List.length_cons, Nat.add_mul, Nat.one_mul]; omega
/-- a high tree has many pairs -/
theorem TrM.pow {σ : MSt} : ∀ {h : Nat} {lo : ByteArray} {hi : Option ByteArray} {b : Int} {cs : List Pr} {bs : List Int}, TrM σ h 2 lo hi b cs bs → 2 ^ h ≤ cs.length
  | 0, _, _, _, _, _, ⟨_, _, _, _, _, h5, _, _, _⟩ => by
    rw [Nat.pow_zero]
    exact List.length_pos_iff.2 h5
  | h + 1, _, _, _, _, _, ⟨nd, bs', _, h2, h3, h4, h5, h6⟩ => by
    have := RowL.pow (fun _ _ _ _ _ ht => TrM.pow ht) h6
    rw [nd.row_length h2 h3] at this
    have : 2 * 2 ^ h ≤ nd.kids.length * 2 ^ h := Nat.mul_le_mul_right _ h4
    rw [Nat.pow_succ]; omega
theorem TrM.low {σ : MSt} {h : Nat} {lo : ByteArray} {hi : Option ByteArray} {b : Int} {cs : List Pr} {bs : List Int} (ht : TrM σ h 2 lo hi b cs bs) (hl : cs.length ≤ 4095) : h ≤ 11 := by
  have h1 := ht.pow
  rcases Nat.lt_or_ge 11 h with h2 | h2
  · have : 2 ^ 12 ≤ 2 ^ h := Nat.pow_le_pow_right (by omega) h2
    omega
  · exact h2

theorem TrR.rise {σ : MSt} {root : Int} {cs : List Pr} {bs : List Int} (h : TrR σ root cs bs) : RisingP cs := by
  rcases h with ⟨_, rfl, _⟩ | ⟨h, ht⟩
  · exact List.Pairwise.nil
  · exact ht.content.rise
theorem TrR.has {σ : MSt} {root : Int} {cs : List Pr} {bs : List Int} (h : TrR σ root cs bs) : ∀ x ∈ bs, σ.hasB x = true := by
  rcases h with ⟨_, _, rfl⟩ | ⟨h, ht⟩
  · simp
  · exact ht.has
theorem TrR.count {σ : MSt} {root : Int} {cs : List Pr} {bs : List Int} (h : TrR σ root cs bs) : bs.length ≤ 2 * cs.length := by
  rcases h with ⟨_, _, rfl⟩ | ⟨h, ht⟩
  · simp
  · exact ht.count1
theorem TrR.keep {σ σ' : MSt} {us bs' : List Int} (hc : Chg σ σ' us bs') {root : Int} {cs : List Pr} {bs : List Int} (h : TrR σ root cs bs) (hd : ∀ x ∈ bs, x ∉ us ∨ σ.held x = true) : TrR σ' root cs bs := by
  rcases h with h | ⟨h, ht⟩
  · exact .inl h
  · exact .inr ⟨h, ht.move fun x hx => hc.frame x (ht.has x hx) (hd x hx)⟩
theorem TrR.look {σ : MSt} {root : Int} {cs : List Pr} {bs : List Int} (h : TrR σ root cs bs) (hl : cs.length ≤ 4095) (key : ByteArray) : ∃ n, n ≤ 40 ∧ Look σ key n root (lookP cs key) := by
  rcases h with ⟨rfl, rfl, _⟩ | ⟨h, ht⟩
  · exact ⟨0, by omega, .nil⟩
  · exact ⟨h, by have := ht.low hl; omega, ht.look ⟨by cases hq : lt key ⟨#[]⟩ with | false => rfl | true => (simp [lt, toList_eq] at hq; cases hb : key.data.toList <;> simp [hb, Op.bytesLess] at hq), fun y hy => by cases hy⟩⟩
theorem TrR.root_le {σ : MSt} {root : Int} {cs : List Pr} {bs : List Int} (h : TrR σ root cs bs) : 0 ≤ root := by
  rcases h with ⟨rfl, _, _⟩ | ⟨h, ht⟩
  · omega
  · have := ht.top; omega

theorem lt_empty (k : ByteArray) : lt k ⟨#[]⟩ = false := by
  cases hq : lt k ⟨#[]⟩ with
  | false => rfl
  | true => (simp [lt, toList_eq] at hq; cases hb : k.data.toList <;> simp [hb, Op.bytesLess] at hq)

/-- what a change leaves of the tree -/
def TreeTo (σ : MSt) (bs : List Int) (cs : List Pr) (σ' : MSt) (b : Int) : Prop := ∃ bs', TrR σ' b cs bs' ∧ Chg σ σ' bs bs'

theorem tree_eg {σ : MSt} {root : Int} {cs : List Pr} {bs : List Int} (hT : TrR σ root cs bs) (hn : bs.Nodup) (hl : cs.length ≤ 4090) (hR : Room σ bs (cs.length + 1)) (t mp : Nat) (S : Nat → Prop) (key : ByteArray) (hks : key.size ≤ 128) (g : Nat) (cb : Array Value) (F : List Pr → List Pr) (vs : List (Nat × ByteArray)) (hent : ∀ args w, (callFunc g args).run Tryz.prog w = .ok (.enter g args) w) (hf : EditC g cb F vs) (hF : LocF F key)
    (W : World) (h : Inv σ S mp W) (ht : TreeAt W t mp root 0) (hst : ¬ S t) (hbx : Boxes W S vs) : EG t mp root key g cb S (TreeTo σ bs (F cs)) W := by
  have hFl := hF.len cs
  rcases hT with ⟨rfl, rfl, rfl⟩ | ⟨h', hT⟩
  · have ok : Nd.Ok ⟨F [], [], []⟩ := ⟨fun p hp => by
      rcases hF.mem _ List.Pairwise.nil p hp with h | h
      · cases h
      · exact h.2, by simp, by simp, rfl, by simp, by simp at hFl; show (F []).length ≤ 2000; omega, by simp⟩
    simp only [List.length_nil] at hFl
    refine (edit_zero t mp 0 0 0 σ S key ⟨#[]⟩ g cb F vs hent hf W h ht hst hbx ok (by unfold Room at hR; simp [nh] at hR; unfold Nd.room; simp only [if_true]; omega)).mono ?_
    rintro e w1 ⟨v, ps, zs, σ', S', rfl, p2, p3, p4, p5, p6⟩
    obtain ⟨m, bs', q1, q2⟩ := spr_pcs p3 (lo := ⟨#[]⟩) (hi := none) (h := 0) (cs := F []) (bs := []) ok ⟨rfl, rfl, hF.rise _ List.Pairwise.nil, fun p hp => ⟨lt_empty _, fun y hy => by cases hy⟩, rfl⟩ p4 h.cln List.nodup_nil (by simp) hks (by unfold Nd.room; simp only [if_true]; omega)
    refine ⟨v, S', rfl, p6, ?_⟩
    have ht1 := ht.step hst p6
    refine (grow_any t mp 0 0 σ' v ps 0 m (F []) bs' _ S' w1 p5 ht1.1 ht1.2 p2.isSl q1 (q2.nd List.nodup_nil) (q2.room hR) (by simpa using hFl)).mono ?_
    rintro e2 w2 ⟨b, σ2, S2, bs2, rfl, r1, r2, r3, r4⟩
    exact ⟨b, σ2, S2, rfl, r3, r4, bs2, r1, q2.trans r2⟩
  · have hh := hT.low (by omega)
    refine (edit_any t mp root 0 key g cb F vs hent hf hF hks h' σ S root 0 ⟨#[]⟩ ⟨#[]⟩ none cs bs W h ht hst hbx hT hn ⟨lt_empty _, fun y hy => by cases hy⟩ (by omega) (by omega) hR (Nat.zero_le _)).mono ?_
    rintro e w1 ⟨v, ps, σ', S', bs', m, rfl, p2, q1, q2, p5, p6⟩
    refine ⟨v, S', rfl, p6, ?_⟩
    have ht1 := ht.step hst p6
    refine (grow_any t mp root 0 σ' v ps h' m (F cs) bs' _ S' w1 p5 ht1.1 ht1.2 p2.isSl q1 (q2.nd hn) (q2.room hR) hFl).mono ?_
    rintro e2 w2 ⟨b, σ2, S2, bs2, rfl, r1, r2, r3, r4⟩
    exact ⟨b, σ2, S2, rfl, r3, r4, bs2, r1, q2.trans r2⟩

theorem put_tree (t mp : Nat) (root : Int) (σ : MSt) (S : Nat → Prop) (cs : List Pr) (bs : List Int) (key value : ByteArray) (w : World) (h : Inv σ S mp w) (ht : TreeAt w t mp root 0) (hst : ¬ S t) (hT : TrR σ root cs bs) (hn : bs.Nodup) (hl : cs.length ≤ 4090) (hR : Room σ bs (cs.length + 1)) (hg : GoodKV key value) :
    Calls Tryz.prog 14 #[.pointer (some ⟨t, 0, none⟩), .string key, .string value] w fun e w' => e = .returned (.int .i64 0) ∧ ChgPost t mp S (TreeTo σ bs (insP cs key value)) w w' := by
  refine put_via t mp root S _ key value w h.sub ht hst hg.1.1 hg.1.2 hg.2 fun W kb vb hbW hbx => ?_
  exact tree_eg hT hn hl hR t mp S key hg.1.2 _ _ (fun ps => insP ps key value) [(kb, key), (vb, value)] (fun _ _ => by kernel_rfl) (put_editC kb vb key value) (ins_locF key value hg.1.2 hg.2) W (h.below hbW) ((hbW.block t (Array.getElem?_eq_some_iff.1 ht).1).trans ht) hst hbx

theorem delP_none {cs : List Pr} {key : ByteArray} (h : lookP cs key = none) : delP cs key = cs := by
  unfold delP
  split
  · rename_i hat
    obtain ⟨hp, _⟩ := isAt_lt hat
    unfold lookP at h
    rw [if_pos hat, List.getElem?_eq_getElem hp] at h
    cases h
  · rfl

theorem delete_tree (t mp : Nat) (root : Int) (σ : MSt) (S : Nat → Prop) (cs : List Pr) (bs : List Int) (key : ByteArray) (w : World) (h : Inv σ S mp w) (ht : TreeAt w t mp root 0) (hst : ¬ S t) (hT : TrR σ root cs bs) (hn : bs.Nodup) (hl : cs.length ≤ 4090) (hR : Room σ bs (cs.length + 1)) (hg : 1 ≤ key.size ∧ key.size ≤ 128) :
    Calls Tryz.prog 16 #[.pointer (some ⟨t, 0, none⟩), .string key] w fun e w' => e = .returned (.tuple #[.bool (lookP cs key).isSome, .int .i64 0]) ∧ ChgPost t mp S (TreeTo σ bs (delP cs key)) w w' := by
  obtain ⟨n, hn40, hlk⟩ := hT.look (by omega) key
  cases hx : lookP cs key with
  | none =>
    rw [hx] at hlk
    refine (delete_none t mp root σ S key w h ht hg.1 hg.2 n hn40 hlk).mono ?_
    rintro e w' ⟨rfl, hb⟩
    rw [delP_none hx]
    exact ⟨rfl, σ, S, root, h.below hb, (hb.block t (Array.getElem?_eq_some_iff.1 ht).1).trans ht, hst, ⟨bs, hT, Chg.refl hT.has⟩, Keep.of_below hb _, fun g hg => .inl hg⟩
  | some x =>
    rw [hx] at hlk
    refine delete_via t mp root σ S _ key x w h ht hst hg.1 hg.2 n hn40 hlk fun W kb hbW hbx => ?_
    exact tree_eg hT hn hl hR t mp S key hg.2 _ _ (fun ps => delP ps key) [(kb, key)] (fun _ _ => by kernel_rfl) (delete_editC kb key) (del_locF key) W (h.below hbW) ((hbW.block t (Array.getElem?_eq_some_iff.1 ht).1).trans ht) hst hbx

theorem get_tree (t mp : Nat) (root : Int) (σ : MSt) (S : Nat → Prop) (cs : List Pr) (bs : List Int) (key : ByteArray) (w : World) (h : Inv σ S mp w) (ht : TreeAt w t mp root 0) (hT : TrR σ root cs bs) (hl : cs.length ≤ 4090) (hg : 1 ≤ key.size ∧ key.size ≤ 128) :
    Calls Tryz.prog 15 #[.pointer (some ⟨t, 0, none⟩), .string key] w fun e w' => e = .returned (.tuple #[.string ((lookP cs key).getD ⟨#[]⟩), .bool (lookP cs key).isSome, .int .i64 0]) ∧ Below w.heap.size w w' := by
  obtain ⟨n, hn40, hlk⟩ := hT.look (by omega) key
  exact get_any t mp root σ S key _ w h ht hg.1 hg.2 n hn40 hlk

theorem scan_tree (t mp : Nat) (root : Int) (σ : MSt) (S : Nat → Prop) (cs : List Pr) (bs : List Int) (key : ByteArray) (most : Int) (w : World) (h : Inv σ S mp w) (ht : TreeAt w t mp root 0) (hT : TrR σ root cs bs) (hl : cs.length ≤ 4090) :
    Calls Tryz.prog 12 #[.pointer (some ⟨t, 0, none⟩), .string key, .int .i64 most] w fun e w' => ∃ v, e = .returned (.tuple #[v, .int .i64 0]) ∧ IsPrs w' S v ((cs.drop (posAt cs key)).take most.toNat) ∧ Below w.heap.size w w' := by
  by_cases hm : most ≤ 0
  · refine (scan_none t mp root key most w ht (.inr hm)).mono ?_
    rintro e w' ⟨rfl, hb⟩
    refine ⟨_, rfl, ?_, hb⟩
    rw [show most.toNat = 0 from by omega, List.take_zero]
    exact IsSl.nil _ _ _
  · rcases hT with ⟨rfl, rfl, _⟩ | ⟨h', hT⟩
    · refine (scan_none t mp 0 key most w ht (.inl rfl)).mono ?_
      rintro e w' ⟨rfl, hb⟩
      refine ⟨_, rfl, ?_, hb⟩
      rw [List.drop_nil, List.take_nil]
      exact IsSl.nil _ _ _
    · exact scan_any t mp root σ S key most _ h' w h ht (by have := hT.top; omega) (by omega) (by have := hT.low (by omega); omega) hT.walk (by simp only [List.length_drop]; omega)
end Go.Proofs.YtbldcbakhpdigaaGreat

/- The document's answer: docketref06's tree. -/
namespace Go.Proofs.YtbldcbakhpdigaaGreat
open Go.RowKit

/-- block r is the document's tree; it has the pairs -/
def IsRef (w : World) (S : Nat → Prop) (r : Nat) (rs : List Pr) : Prop := ¬ S r ∧ ∃ v, w.heap[r]? = some (.cells #[v] 31 (0, 0)) ∧ IsPrs w S v rs
theorem IsRef.step {w w' : World} {S S' : Nat → Prop} {r : Nat} {rs : List Pr} (h : IsRef w S r rs) (hs : Step S S' w w') : IsRef w' S' r rs := by
  obtain ⟨hS, v, hb, hv⟩ := h
  have hl := (Array.getElem?_eq_some_iff.1 hb).1
  exact ⟨fun x => (hs.2 r x).elim hS (fun y => absurd hl (Nat.not_lt.2 y)), v, (hs.1.block r hl hS).trans hb, IsSl.step hv hs⟩
theorem IsRef.below {w w' : World} {S : Nat → Prop} {r : Nat} {rs : List Pr} (h : IsRef w S r rs) (hb : Below w.heap.size w w') : IsRef w' S r rs := h.step (Step.of_below hb)
theorem cellR {w : World} {r t : Nat} {v : Value} (h : w.heap[r]? = some (.cells #[v] t (0, 0))) : w.cell? ⟨r, 0, none⟩ = some v ∧ w.frozen? ⟨r, 0, none⟩ = false ∧ r < w.heap.size :=
  ⟨by simp [World.cell?, h], by simp [World.frozen?, h], (Array.getElem?_eq_some_iff.1 h).1⟩

theorem eqS {a b : ByteArray} (h : a = b) : (a.toList == b.toList) = true := by rw [h]; simp
theorem neS {a b : ByteArray} (h : a ≠ b) : (a.toList == b.toList) = false := by
  rw [beq_eq_false_iff_ne]; exact fun e => h (toList_inj e)

set_option maxRecDepth 100000 in
set_option maxHeartbeats 2000000 in
theorem rget_any (r : Nat) (rs : List Pr) (key : ByteArray) (w : World) (S : Nat → Prop) (h : IsRef w S r rs) (hr : RisingP rs) (hl : rs.length ≤ 100000) :
    Calls Tryz.prog 20 #[.pointer (some ⟨r, 0, none⟩), .string key] w fun e w' => e = .returned (.tuple #[.string ((lookP rs key).getD ⟨#[]⟩), .bool (lookP rs key).isSome]) ∧ w' = w := by
  obtain ⟨_, v, hb, hv⟩ := h
  obtain ⟨c0, _, lr⟩ := cellR hb
  obtain ⟨ao, cp, rfl, _, _, _, _⟩ := IsSl.form hv
  go_enter Tryz.func20, Tryz.ntmps20
  go_wp2
  go_loop [6] (fun i => ∃ k : Nat, k ≤ rs.length ∧ i = .int .i64 k ∧ ∀ j (h : j < rs.length), j < k → rs[j].1 ≠ key) (fun i => rs.length - (intOf i).toNat)
  case atStart => exact ⟨0, Nat.zero_le _, rfl, fun j _ h => absurd h (by omega)⟩
  case round =>
    obtain ⟨k, hk, rfl, hall⟩ := hrel
    have HA := Lib.hid hall; clear hall
    by_cases hlt : k < rs.length
    · obtain ⟨b, o, rfl, d1, d2⟩ := hv.at rfl k hlt
      have hbl := World.block_lt_of_cell? w _ d1
      have hlt' : (k : Int) < (rs.length : Int) := by omega
      by_cases he : rs[k].1 = key
      · have hq := eqS he
        have hlk : lookP rs key = some rs[k].2 := (lookP_some hr).2 (by have := List.getElem_mem hlt; rw [← he]; exact this)
        have HLK := Lib.hid hlk
        clear he hlk
        go_wp2
        go_ret2
        rw [HLK.out]
        exact ⟨rfl, rfl⟩
      · have hq := neS he
        have HE := Lib.hid he; clear he
        go_wp2
        go_round
        case rel => exact ⟨k + 1, by omega, by go_num, fun j hj hjk => by
          rcases Nat.lt_or_ge j k with h | h
          · exact HA.out j hj h
          · obtain rfl : j = k := by omega
            exact HE.out⟩
        case measure => simp [intOf]; omega
    · obtain rfl : k = rs.length := by omega
      have hlk : lookP rs key = none := by
        cases hq : lookP rs key with
        | none => rfl
        | some x =>
          obtain ⟨j, hj, e⟩ := List.getElem_of_mem ((lookP_some hr).1 hq)
          exact absurd (by rw [e]) (HA.out j hj hj)
      have HLK := Lib.hid hlk
      clear hlk
      have x1 : ¬ (rs.length : Int) < (rs.length : Int) := by omega
      go_wp2
      go_ret2
      rw [HLK.out]
      exact ⟨rfl, rfl⟩

theorem good_yes (key value : ByteArray) (w : World) (h : GoodKV key value) :
    Calls Tryz.prog 17 #[.string key, .string value] w fun e w' => e = .returned (.bool true) ∧ w' = w := by
  obtain ⟨⟨h1, h2⟩, h3⟩ := h
  have q' : ¬ key.toList = [] := fun e => by rw [toList_eq] at e; have : key.size = 0 := (by rw [← length_bytes, e]; rfl); omega
  have x2 : (key.size : Int) ≤ 128 := by omega
  have x3 : (value.size : Int) ≤ 64 := by omega
  go_enter Tryz.func17, Tryz.ntmps17
  go_wp2
  go_ret
  exact ⟨by simp [*], rfl⟩

theorem good_no (key value : ByteArray) (w : World) (h : ¬ GoodKV key value) :
    Calls Tryz.prog 17 #[.string key, .string value] w fun e w' => e = .returned (.bool false) ∧ w' = w := by
  by_cases h1 : 1 ≤ key.size
  · have q' : ¬ key.toList = [] := fun e => by rw [toList_eq] at e; have : key.size = 0 := (by rw [← length_bytes, e]; rfl); omega
    by_cases h2 : key.size ≤ 128
    · have h3 : ¬ value.size ≤ 64 := fun x => h ⟨⟨h1, h2⟩, x⟩
      have x2 : (key.size : Int) ≤ 128 := by omega
      have x3 : ¬ (value.size : Int) ≤ 64 := by omega
      go_enter Tryz.func17, Tryz.ntmps17
      go_wp2
      go_ret
      exact ⟨by simp [*], rfl⟩
    · have x2 : ¬ (key.size : Int) ≤ 128 := by omega
      go_enter Tryz.func17, Tryz.ntmps17
      go_wp2
      go_ret
      exact ⟨by simp [*], rfl⟩
  · have q' : key.toList = [] := by rw [toList_eq]; exact List.eq_nil_of_length_eq_zero (by rw [length_bytes]; omega)
    go_enter Tryz.func17, Tryz.ntmps17
    go_wp2
    go_ret
    exact ⟨by simp [*], rfl⟩

/-- what the document's Delete makes -/
theorem filter_del {rs : List Pr} (hr : RisingP rs) (key : ByteArray) : rs.filter (fun p => !(p.1.toList == key.toList)) = delP rs key := by
  obtain ⟨f1, f2⟩ := posAt_facts key rs hr
  have h1 : ∀ p ∈ rs.take (posAt rs key), (!(p.1.toList == key.toList)) = true := fun p hp => by
    obtain ⟨i, hi, rfl⟩ := List.getElem_of_mem hp
    rw [List.length_take] at hi
    rw [List.getElem_take, neS (lt_ne (f1 i (by omega) (by omega)))]; rfl
  unfold delP
  split
  · rename_i hat
    obtain ⟨hlt, hk⟩ := isAt_lt hat
    have e : rs = rs.take (posAt rs key) ++ rs[posAt rs key] :: rs.drop (posAt rs key + 1) := by
      rw [← List.drop_eq_getElem_cons hlt, List.take_append_drop]
    have h2 : ∀ p ∈ rs.drop (posAt rs key + 1), (!(p.1.toList == key.toList)) = true := fun p hp => by
      obtain ⟨i, hi, rfl⟩ := List.getElem_of_mem hp
      rw [List.length_drop] at hi
      have := List.pairwise_iff_getElem.1 hr (posAt rs key) (posAt rs key + 1 + i) hlt (by omega) (by omega)
      rw [hk] at this
      rw [List.getElem_drop, neS (fun e => lt_ne this e.symm)]; rfl
    conv => lhs; rw [e]
    rw [List.filter_append, List.filter_cons, if_neg (by rw [eqS hk]; simp), List.filter_eq_self.2 h1, List.filter_eq_self.2 h2]
  · rename_i hat
    refine List.filter_eq_self.2 fun p hp => ?_
    obtain ⟨i, hi, rfl⟩ := List.getElem_of_mem hp
    rw [neS]; rfl
    intro e
    apply hat
    have : (key, rs[i].2) ∈ rs := by have := List.getElem_mem hi; rw [← e]; exact this
    have := (lookP_some hr).2 this
    unfold lookP at this
    split at this
    · assumption
    · cases this
theorem del_less {rs : List Pr} (key : ByteArray) : decide ((delP rs key).length < rs.length) = (lookP rs key).isSome := by
  unfold delP lookP
  split
  · rename_i hat
    obtain ⟨hlt, _⟩ := isAt_lt hat
    rw [List.getElem?_eq_getElem hlt]
    simp; omega
  · simp

theorem ref_set {w wr : World} {S : Nat → Prop} {r : Nat} {v0 v : Value} {rs : List Pr} (hb : wr.heap[r]? = some (.cells #[v0] 31 (0, 0))) (hS : ¬ S r) (ho : OwnSl wr S w.heap.size 53 2 v rs.length (prCells rs)) (hbel : Below w.heap.size w wr) : IsRef (wr.setCell ⟨r, 0, none⟩ v) S r rs ∧ Keep (· = r) w (wr.setCell ⟨r, 0, none⟩ v) := by
  have hk : Keep (· = r) wr (wr.setCell ⟨r, 0, none⟩ v) := Keep.setCell (M := (· = r)) (p := ⟨r, 0, none⟩) (Keep.refl _ _) (.inr rfl) _
  refine ⟨⟨hS, v, by simp [World.setCell, Array.getElem?_modify, hb], ?_⟩, (Keep.of_below hbel _).trans hk (fun _ _ h => h)⟩
  exact (ho.keep fun g hg hl hs => ⟨hk.block g hl (fun e => ho.ne hb (by decide) (by rw [hg, e])), hs⟩).isSl

set_option maxRecDepth 100000 in
set_option maxHeartbeats 2000000 in
theorem rdelete_any (r : Nat) (rs : List Pr) (key : ByteArray) (w : World) (S : Nat → Prop) (hsub : ∀ g, S g → g < w.heap.size) (h : IsRef w S r rs) (hr : RisingP rs) (hl : rs.length ≤ 100000) :
    Calls Tryz.prog 19 #[.pointer (some ⟨r, 0, none⟩), .string key] w fun e w' => e = .returned (.bool (lookP rs key).isSome) ∧ IsRef w' S r (delP rs key) ∧ Keep (· = r) w w' := by
  obtain ⟨hSr, v, hb, hv⟩ := h
  obtain ⟨c0, cf, lr⟩ := cellR hb
  obtain ⟨ao, cp, rfl, _, _, _, _⟩ := IsSl.form hv
  have HF := Lib.hid (filter_del hr key)
  have HL := Lib.hid (del_less (rs := rs) key)
  obtain ⟨fl, hfl⟩ : ∃ fl : Pr → Bool, fl = fun p => !(p.1.toList == key.toList) := ⟨_, rfl⟩
  have HFL := Lib.hid hfl
  rw [← hfl] at HF
  clear hfl
  go_enter Tryz.func19, Tryz.ntmps19
  go_wp2
  go_loopw [5, 6] (fun l i wr => ∃ (k : Nat), k ≤ rs.length ∧ i = .int .i64 k ∧ OwnSl wr S w.heap.size 53 2 l ((rs.take k).filter fl).length (prCells ((rs.take k).filter fl)) ∧ Below w.heap.size w wr) (fun _ i _ => rs.length - (intOf i).toNat)
  case atStart => exact ⟨0, Nat.zero_le _, rfl, OwnSl.nil _ _ _ _ _, Below.refl _ _⟩
  case round =>
    obtain ⟨k, hk, rfl, hown, hbel⟩ := hrel
    have hbr := (hbel.block r lr).trans hb
    obtain ⟨c0', cf', lr'⟩ := cellR hbr
    have hlenf : ((rs.take k).filter fl).length ≤ 100000 := Nat.le_trans (List.length_filter_le _ _) (by rw [List.length_take]; omega)
    generalize hn : ((rs.take k).filter fl).length = n at hown hlenf
    have HN := Lib.hid hn; clear hn
    obtain ⟨lo, lc, rfl, _, _, _, _⟩ := IsSl.form hown.isSl
    by_cases hlt : k < rs.length
    · obtain ⟨b, o, rfl, d1, d2⟩ := hv.at rfl k hlt
      have d1' := (hbel.cell (p := ⟨b, o + k * 2, none⟩) (World.block_lt_of_cell? w _ d1)).trans d1
      have d2' := (hbel.cell (p := ⟨b, o + k * 2 + 1, none⟩) (World.block_lt_of_cell? w _ d2)).trans d2
      have hbl := World.block_lt_of_cell? wr _ d1'
      have hlt' : (k : Int) < (rs.length : Int) := by omega
      clear d1 d2
      by_cases he : rs[k].1 = key
      · have hq := eqS he
        have HE := Lib.hid he; clear he
        go_wp2_with fail
        go_roundw
        case rel =>
          refine ⟨k + 1, by omega, by go_num, ?_, hbel⟩
          rw [List.take_succ_eq_append_getElem hlt, List.filter_append, List.filter_cons, if_neg (by rw [HFL.out]; simp [eqS HE.out]), List.filter_nil, List.append_nil, HN.out]
          exact hown
        case measure => simp [intOf]; omega
      · have hq := neS he
        have HE := Lib.hid he; clear he
        have hba := below_one wr (.cells #[.string rs[k].1, .string rs[k].2] 53)
        go_wp2_with (at_builtin; go_must ((refine wpList_app rfl (.tmp 27) (.tmp 35) 29 29 rfl S w.heap.size 53 2 32 _ Tryz.underlying29 info_pair rfl (.slice lo n lc) n _ rfl (hown.below hba) (.slice (some ⟨wr.heap.size, 0, none⟩) 1 1) 1 [.string rs[k].1, .string rs[k].2] rfl (src_new (w := wr) [.string rs[k].1, .string rs[k].2] 53 2 1 1 rfl Tryz.underlying29 rfl (by intro u hu; simp only [List.mem_cons, List.not_mem_nil, or_false] at hu; rcases hu with rfl | rfl <;> rfl)) (sub_alloc (fun g hg => Nat.lt_of_lt_of_le (hsub g hg) hbel.size) _) ?_ ?_ ?_ ?_); (focus (have := hbel.size; simp only [World.size_alloc]; omega)); (focus (unfold maxLen; omega)); (focus omega); intro ao3 c3 w3 hown3 hk3 hb3 hd3))
        go_roundw
        case rel =>
          refine ⟨k + 1, by omega, by go_num, ?_, (hbel.trans (hba.mono hbel.size)).trans hb3⟩
          rw [List.take_succ_eq_append_getElem hlt, List.filter_append, List.filter_cons, if_pos (by rw [HFL.out]; simp [neS HE.out]), List.filter_nil, List.length_append, HN.out, prCells_append]
          exact hown3
        case measure => simp [intOf]; omega
    · obtain rfl : k = rs.length := by omega
      rw [List.take_length, HF.out] at hown
      have hn := HN.out
      rw [List.take_length, HF.out] at hn
      subst hn
      have x1 : ¬ (rs.length : Int) < (rs.length : Int) := by omega
      go_wp2_with fail
      go_ret
      have := ref_set hbr hSr hown hbel
      refine ⟨?_, this.1, this.2⟩
      rw [← HL.out]
      congr 2

/-- what the document's Put makes -/
theorem ins_of_del {rs : List Pr} (hr : RisingP rs) (key value : ByteArray) : insP rs key value = (delP rs key).take (posAt (delP rs key) key) ++ (key, value) :: (delP rs key).drop (posAt (delP rs key) key) := by
  obtain ⟨f1, f2⟩ := posAt_facts key rs hr
  unfold insP delP
  split
  · rename_i hat
    obtain ⟨hlt, hk⟩ := isAt_lt hat
    have h1 : ∀ p ∈ rs.take (posAt rs key), lt p.1 key = true := fun p hp => by
      obtain ⟨i, hi, rfl⟩ := List.getElem_of_mem hp
      rw [List.length_take] at hi
      rw [List.getElem_take]; exact f1 i (by omega) (by omega)
    have h2 : ∀ p ∈ rs.drop (posAt rs key + 1), lt key p.1 = true := fun p hp => by
      obtain ⟨i, hi, rfl⟩ := List.getElem_of_mem hp
      rw [List.length_drop] at hi
      have := List.pairwise_iff_getElem.1 hr (posAt rs key) (posAt rs key + 1 + i) hlt (by omega) (by omega)
      rw [hk] at this
      rw [List.getElem_drop]; exact this
    have hp : posAt (rs.take (posAt rs key) ++ rs.drop (posAt rs key + 1)) key = (rs.take (posAt rs key)).length := by
      rw [posAt_left _ _ _ h1, posAt_none _ _ h2, Nat.add_zero]
    rw [hp, List.take_left, List.drop_left, List.set_eq_take_append_cons_drop, if_pos hlt]
  · rfl

/-- where the new pair goes: the first one behind the key -/
theorem del_gt {rs : List Pr} (hr : RisingP rs) (key : ByteArray) (k : Nat) (hk : k < (delP rs key).length) : lt key (delP rs key)[k].1 = decide (posAt (delP rs key) key ≤ k) := by
  have hr2 : RisingP (delP rs key) := (del_locF key).rise rs hr
  obtain ⟨f1, f2⟩ := posAt_facts key _ hr2
  by_cases h : posAt (delP rs key) key ≤ k
  · rw [decide_eq_true h]
    have h1 := f2 k hk h
    cases h2 : lt key (delP rs key)[k].1 with
    | true => rfl
    | false =>
      have e := lt_total h1 h2
      have hm : (delP rs key)[k] ∈ rs.filter (fun p => !(p.1.toList == key.toList)) := by rw [filter_del hr]; exact List.getElem_mem hk
      have := (List.mem_filter.1 hm).2
      rw [eqS e] at this; cases this
  · rw [decide_eq_false h]
    exact lt_asymm (f1 k hk (by omega))

def putL (ds : List Pr) (P k : Nat) (p : Pr) : List Pr := if k ≤ P then ds.take k else ds.take P ++ p :: (ds.take k).drop P
theorem putL_len (ds : List Pr) (P k : Nat) (p : Pr) (hk : k ≤ ds.length) (hP : P ≤ ds.length) : (putL ds P k p).length = if k ≤ P then k else k + 1 := by
  unfold putL
  split
  · simp; omega
  · simp; omega
theorem putL_le (ds : List Pr) (P k : Nat) (p : Pr) (hk : k < ds.length) (h : k < P) : putL ds P (k + 1) p = putL ds P k p ++ [ds[k]] := by
  unfold putL
  rw [if_pos (by omega), if_pos (by omega), List.take_succ_eq_append_getElem hk]
theorem putL_eq (ds : List Pr) (P : Nat) (p : Pr) (hP : P < ds.length) : putL ds P (P + 1) p = putL ds P P p ++ [p] ++ [ds[P]] := by
  unfold putL
  rw [if_neg (by omega), if_pos (by omega), List.take_succ_eq_append_getElem hP, List.drop_append_of_le_length (by simp; omega), List.drop_of_length_le (by simp; omega)]
  simp
theorem putL_gt (ds : List Pr) (P k : Nat) (p : Pr) (hk : k < ds.length) (h : P < k) : putL ds P (k + 1) p = putL ds P k p ++ [ds[k]] := by
  unfold putL
  rw [if_neg (by omega), if_neg (by omega), List.take_succ_eq_append_getElem hk, List.drop_append_of_le_length (by simp; omega)]
  simp
theorem putL_end (ds : List Pr) (P : Nat) (p : Pr) (hP : P ≤ ds.length) : (if P < ds.length then putL ds P ds.length p else putL ds P ds.length p ++ [p]) = ds.take P ++ p :: ds.drop P := by
  unfold putL
  by_cases h : P < ds.length
  · rw [if_pos h, if_neg (by omega), List.take_length]
  · obtain rfl : P = ds.length := by omega
    rw [if_neg h, if_pos (Nat.le_refl _)]; simp

set_option maxRecDepth 100000 in
set_option maxHeartbeats 4000000 in
theorem rput_any (r : Nat) (rs : List Pr) (key value : ByteArray) (w : World) (S : Nat → Prop) (hsub : ∀ g, S g → g < w.heap.size) (h : IsRef w S r rs) (hr : RisingP rs) (hl : rs.length ≤ 90000) :
    Calls Tryz.prog 18 #[.pointer (some ⟨r, 0, none⟩), .string key, .string value] w fun e w' => e = .returned (.tuple #[]) ∧ IsRef w' S r (insP rs key value) ∧ Keep (· = r) w w' := by
  have hD := rdelete_any r rs key w S hsub h hr (by omega)
  have HD := Lib.hid hD; clear hD
  have hlr : r < w.heap.size := by obtain ⟨_, _, hb, _⟩ := h; exact (Array.getElem?_eq_some_iff.1 hb).1
  have hins := ins_of_del hr key value
  have hgt := del_gt hr key
  have hdl : (delP rs key).length ≤ rs.length := by
    have := filter_del hr key
    rw [← this]; exact List.length_filter_le _ _
  have hPl := posAt_le (delP rs key) key
  generalize delP rs key = ds at *
  generalize posAt ds key = P at *
  have HI := Lib.hid hins; clear hins
  have HG := Lib.hid hgt; clear hgt
  have hbp : ∀ w, Below w.heap.size w (w.alloc (.cells #[.string key, .string value] 53)) := fun w => below_one w _
  go_enter Tryz.func18, Tryz.ntmps18
  go_wp2_with (go_at_call 19; go_must (refine HD.out.mono ?_; rintro e wa ⟨rfl, hR, hka⟩))
  obtain ⟨hSr, v, hb, hv⟩ := hR
  obtain ⟨c0, cf, lr⟩ := cellR hb
  obtain ⟨ao, cp, rfl, _, _, _, _⟩ := IsSl.form hv
  have hsubA : ∀ g, S g → g < wa.heap.size := fun g hg => Nat.lt_of_lt_of_le (hsub g hg) hka.size
  go_loopw [6, 7, 8] (fun l d i wr => ∃ (k : Nat), k ≤ ds.length ∧ i = .int .i64 k ∧ d = .bool (decide (P < k)) ∧ OwnSl wr S wa.heap.size 53 2 l (putL ds P k (key, value)).length (prCells (putL ds P k (key, value))) ∧ Below wa.heap.size wa wr) (fun _ _ i _ => ds.length - (intOf i).toNat)
  case atStart => exact ⟨0, Nat.zero_le _, rfl, rfl, by have : putL ds P 0 (key, value) = [] := (by simp [putL]); rw [this]; exact OwnSl.nil _ _ _ _ _, Below.refl _ _⟩
  case round =>
    obtain ⟨k, hk, rfl, rfl, hown, hbel⟩ := hrel
    have hbr := (hbel.block r lr).trans hb
    obtain ⟨c0', cf', lr'⟩ := cellR hbr
    have hpl := putL_len ds P k (key, value) hk hPl
    have hn1 : (putL ds P k (key, value)).length ≤ 90001 := by rw [hpl]; split <;> omega
    clear hpl
    have hsubR : ∀ g, S g → g < wr.heap.size := fun g hg => Nat.lt_of_lt_of_le (hsubA g hg) hbel.size
    generalize hn : (putL ds P k (key, value)).length = n at hown hn1
    have HN := Lib.hid hn; clear hn
    obtain ⟨lo, lc, rfl, _, _, _, _⟩ := IsSl.form hown.isSl
    by_cases hlt : k < ds.length
    · obtain ⟨b, o, rfl, d1, d2⟩ := hv.at rfl k hlt
      have d1' := (hbel.cell (p := ⟨b, o + k * 2, none⟩) (World.block_lt_of_cell? wa _ d1)).trans d1
      have d2' := (hbel.cell (p := ⟨b, o + k * 2 + 1, none⟩) (World.block_lt_of_cell? wa _ d2)).trans d2
      have hbl := World.block_lt_of_cell? wr _ d1'
      have hlt' : (k : Int) < (ds.length : Int) := by omega
      have hg := HG.out k hlt
      rw [← gtr_eq] at hg
      have hba := below_one wr (.cells #[.string ds[k].1, .string ds[k].2] 53)
      rcases Nat.lt_trichotomy k P with he | he | he
      · have hd : decide (P < k) = false := decide_eq_false (by omega)
        rw [decide_eq_false (by omega)] at hg
        rw [hd]
        have HD2 := Lib.hid hd; clear hd
        clear d1 d2
        go_wp2_with (at_builtin; (refine wpList_app rfl (.tmp 41) (.tmp 49) 29 29 rfl S wa.heap.size 53 2 32 _ Tryz.underlying29 info_pair rfl _ _ _ rfl (hown.below hba) (.slice (some ⟨wr.heap.size, 0, none⟩) 1 1) 1 [.string ds[k].1, .string ds[k].2] rfl (src_new (w := wr) [.string ds[k].1, .string ds[k].2] 53 2 1 1 rfl Tryz.underlying29 rfl (by intro u hu; simp only [List.mem_cons, List.not_mem_nil, or_false] at hu; rcases hu with rfl | rfl <;> rfl)) (sub_alloc (fun g hg => Nat.lt_of_lt_of_le (hsubA g hg) (hbel).size) _) ?_ ?_ ?_ ?_); go_must ((focus (have := (hbel).size; simp only [World.size_alloc]; omega)); (focus (unfold maxLen; omega)); (focus omega); intro ao3 c3 w3 hown3 hk3 hb3 hd3))
        go_roundw
        case rel =>
          refine ⟨k + 1, by omega, by go_num, by rw [decide_eq_false (by omega)], ?_, (hbel.trans (hba.mono hbel.size)).trans hb3⟩
          rw [putL_le ds P k _ hlt he, List.length_append, HN.out, prCells_append]
          exact hown3
        case measure => simp [intOf]; omega
      · subst he
        have hd : decide (k < k) = false := decide_eq_false (Nat.lt_irrefl _)
        rw [decide_eq_true (Nat.le_refl k)] at hg
        rw [hd]
        have HD2 := Lib.hid hd; clear hd
        go_wp2_with (first
          | (at_builtin; (refine wpList_app rfl (.tmp 35) (.tmp 39) 29 29 rfl S wa.heap.size 53 2 32 _ Tryz.underlying29 info_pair rfl _ _ _ rfl (hown.below (hbp wr)) (.slice (some ⟨wr.heap.size, 0, none⟩) 1 1) 1 [.string key, .string value] rfl (src_new (w := wr) [.string key, .string value] 53 2 1 1 rfl Tryz.underlying29 rfl (by intro u hu; simp only [List.mem_cons, List.not_mem_nil, or_false] at hu; rcases hu with rfl | rfl <;> rfl)) (sub_alloc (fun g hg => Nat.lt_of_lt_of_le (hsubA g hg) (hbel).size) _) ?_ ?_ ?_ ?_); go_must ((focus (have := (hbel).size; simp only [World.size_alloc]; omega)); (focus (unfold maxLen; omega)); (focus omega); intro ao3 c3 w3 hown3 hk3 hb3 hd3; have hbel3 : Below wa.heap.size wa w3 := (hbel.trans ((hbp wr).mono hbel.size)).trans hb3; have hbr3 := (hbel3.block r lr).trans hb; obtain ⟨c03, cf3, lr3⟩ := cellR hbr3; have e1 := (hbel3.cell (p := ⟨b, o + k * 2, none⟩) (World.block_lt_of_cell? wa _ d1)).trans d1; have e2 := (hbel3.cell (p := ⟨b, o + k * 2 + 1, none⟩) (World.block_lt_of_cell? wa _ d2)).trans d2; have ebl := World.block_lt_of_cell? w3 _ e1; clear c0' d1' d2' hbl cf' lr'))
          | (at_builtin; (refine wpList_app rfl (.tmp 41) (.tmp 49) 29 29 rfl S wa.heap.size 53 2 32 _ Tryz.underlying29 info_pair rfl _ _ _ rfl (hown3.below (below_one w3 (.cells #[.string ds[k].1, .string ds[k].2] 53))) (.slice (some ⟨w3.heap.size, 0, none⟩) 1 1) 1 [.string ds[k].1, .string ds[k].2] rfl (src_new (w := w3) [.string ds[k].1, .string ds[k].2] 53 2 1 1 rfl Tryz.underlying29 rfl (by intro u hu; simp only [List.mem_cons, List.not_mem_nil, or_false] at hu; rcases hu with rfl | rfl <;> rfl)) (sub_alloc (fun g hg => Nat.lt_of_lt_of_le (hsubA g hg) (hbel3).size) _) ?_ ?_ ?_ ?_); go_must ((focus (have := (hbel3).size; simp only [World.size_alloc]; omega)); (focus (unfold maxLen; omega)); (focus omega); intro ao4 c4 w4 hown4 hk4 hb4 hd4)))
        go_roundw
        case rel =>
          refine ⟨k + 1, by omega, by go_num, by rw [decide_eq_true (by omega)], ?_, (hbel3.trans ((below_one w3 _).mono hbel3.size)).trans hb4⟩
          rw [putL_eq ds k _ hlt, List.length_append, List.length_append, HN.out, prCells_append, prCells_append]
          exact hown4
        case measure => simp [intOf]; omega
      · have hd : decide (P < k) = true := decide_eq_true he
        rw [hd]
        have HD2 := Lib.hid hd; clear hd hg
        clear d1 d2
        go_wp2_with (at_builtin; (refine wpList_app rfl (.tmp 41) (.tmp 49) 29 29 rfl S wa.heap.size 53 2 32 _ Tryz.underlying29 info_pair rfl _ _ _ rfl (hown.below hba) (.slice (some ⟨wr.heap.size, 0, none⟩) 1 1) 1 [.string ds[k].1, .string ds[k].2] rfl (src_new (w := wr) [.string ds[k].1, .string ds[k].2] 53 2 1 1 rfl Tryz.underlying29 rfl (by intro u hu; simp only [List.mem_cons, List.not_mem_nil, or_false] at hu; rcases hu with rfl | rfl <;> rfl)) (sub_alloc (fun g hg => Nat.lt_of_lt_of_le (hsubA g hg) (hbel).size) _) ?_ ?_ ?_ ?_); go_must ((focus (have := (hbel).size; simp only [World.size_alloc]; omega)); (focus (unfold maxLen; omega)); (focus omega); intro ao3 c3 w3 hown3 hk3 hb3 hd3))
        go_roundw
        case rel =>
          refine ⟨k + 1, by omega, by go_num, by rw [decide_eq_true (by omega)], ?_, (hbel.trans (hba.mono hbel.size)).trans hb3⟩
          rw [putL_gt ds P k _ hlt he, List.length_append, HN.out, prCells_append]
          exact hown3
        case measure => simp [intOf]; omega
    · obtain rfl : k = ds.length := by omega
      have hend := putL_end ds P (key, value) hPl
      have HE := Lib.hid hend; clear hend
      have x1 : ¬ (ds.length : Int) < (ds.length : Int) := by omega
      by_cases hP : P < ds.length
      · rw [decide_eq_true hP]
        have HPl := Lib.hid hP; clear hP
        go_wp2_with fail
        go_end0
        have hown' : OwnSl wr S wa.heap.size 53 2 (.slice lo n lc) (putL ds P ds.length (key, value)).length (prCells (putL ds P ds.length (key, value))) := by rw [HN.out]; exact hown
        have := ref_set hbr hSr hown' hbel
        have he := HE.out
        rw [if_pos HPl.out] at he
        rw [HI.out, ← he]
        exact ⟨rfl, this.1, hka.trans this.2 (fun _ _ h => h)⟩
      · rw [decide_eq_false hP]
        have HPl := Lib.hid hP; clear hP
        go_wp2_with (at_builtin; (refine wpList_app rfl (.tmp 53) (.tmp 57) 29 29 rfl S wa.heap.size 53 2 32 _ Tryz.underlying29 info_pair rfl _ _ _ rfl (hown.below (hbp wr)) (.slice (some ⟨wr.heap.size, 0, none⟩) 1 1) 1 [.string key, .string value] rfl (src_new (w := wr) [.string key, .string value] 53 2 1 1 rfl Tryz.underlying29 rfl (by intro u hu; simp only [List.mem_cons, List.not_mem_nil, or_false] at hu; rcases hu with rfl | rfl <;> rfl)) (sub_alloc (fun g hg => Nat.lt_of_lt_of_le (hsubA g hg) (hbel).size) _) ?_ ?_ ?_ ?_); go_must ((focus (have := (hbel).size; simp only [World.size_alloc]; omega)); (focus (unfold maxLen; omega)); (focus omega); intro ao3 c3 w3 hown3 hk3 hb3 hd3; have hbel3 : Below wa.heap.size wa w3 := (hbel.trans ((hbp wr).mono hbel.size)).trans hb3; have hbr3 := (hbel3.block r lr).trans hb; obtain ⟨c03, cf3, lr3⟩ := cellR hbr3))
        go_end0
        have hown' : OwnSl w3 S wa.heap.size 53 2 (.slice ao3 (n + 1) c3) (putL ds P ds.length (key, value) ++ [(key, value)]).length (prCells (putL ds P ds.length (key, value) ++ [(key, value)])) := by
          rw [List.length_append, HN.out, prCells_append]; exact hown3
        have := ref_set hbr3 hSr hown' hbel3
        have he := HE.out
        rw [if_neg HPl.out] at he
        rw [HI.out, ← he]
        exact ⟨rfl, this.1, hka.trans this.2 (fun _ _ h => h)⟩
end Go.Proofs.YtbldcbakhpdigaaGreat

