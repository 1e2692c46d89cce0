/- parts -/
import Derived.Test.YtfgpefcphnpabaaGreatJ22
namespace Go.Proofs.YtfgpefcphnpabaaGreat
open Go.RowKit
set_option maxRecDepth 100000
set_option maxHeartbeats 8000000
structure VB (w0 w : World) (S : Nat → Prop) : Prop where
 bel : Below w0.heap.size w0 w
 lo : ∀ g, S g → w0.heap.size ≤ g
theorem VB.step {w0 w w' : World} {S S' : Nat → Prop} (h : VB w0 w S) (hs : Step S S' w w') : VB w0 w' S' :=
 ⟨h.bel.trans (hs.1.toBelow h.bel.size (fun i hi e => absurd hi (Nat.not_lt.2 (h.lo i e)))), fun g hg => (hs.2 g hg).elim (h.lo g) (fun e => Nat.le_trans h.bel.size e)⟩
theorem VB.tstep {w0 w w' : World} {S S' : Nat → Prop} {t tr : Nat} (h : VB w0 w S) (ht : w0.heap.size ≤ t) (htr : w0.heap.size ≤ tr) (hs : TStep S S' t tr w w') : VB w0 w' S' :=
 ⟨h.bel.trans (hs.1.toBelow h.bel.size (fun i hi e => by
  rcases e with e | e | e
  ·exact absurd hi (Nat.not_lt.2 (h.lo i e))
  ·omega
  ·omega)), fun g hg => (hs.2 g hg).elim (h.lo g) (fun e => Nat.le_trans h.bel.size e)⟩
theorem VB.below {w0 w w' : World} {S : Nat → Prop} (h : VB w0 w S) (hb : Below w.heap.size w w') : VB w0 w' S := h.step (Step.of_below hb)
section
variable {w : World} {S : Nat → Prop} {v pg d : Nat} {σ : Dk} {l : Lg} {p : Pg} {f : Nat → Bool} {root : Nat} {es : List Ent} {tb : List Int}
theorem VAt.begin (h : VAt w S v pg d σ l p f root es tb) :
  Calls Tryz.prog 13 #[.pointer (some ⟨v, 0, none⟩)] w fun e w' => ∃ t tr mp S', e = .returned (.tuple #[.pointer (some ⟨t, 0, none⟩), .int .i64 0]) ∧ mp.pg = pg ∧ mp.d = d ∧ TAt w' S' v t tr mp (MSt.start σ l p f) root es tb false root es tb ∧ Step S S' w w' ∧ w.heap.size ≤ t ∧ w.heap.size ≤ tr := by
 refine (vbegin v pg d σ l p f root S w h.obj h.nv h.pgr h.base.pd h.base.sd h.base.two h.base.map h.base.hi h.base.f0 h.base.f1 h.base.root).mono ?_
 rintro e w1 ⟨t, tr, mp, S1, rfl, hpg, hd, htx, htr, hI1, hs1, hn1, hn2, hlo1, hlo2⟩
 have hlt := (Array.getElem?_eq_some_iff.1 h.obj).1
 exact ⟨t, tr, mp, S1, rfl, hpg, hd, ⟨by rw [hpg]; exact (hs1.1.block v hlt h.nv).trans h.obj, fun e => (hs1.2 v e).elim h.nv (fun x => absurd hlt (Nat.not_lt.2 x)), ⟨htx, htr, hI1, hn1, hn2⟩, h.live, ⟨h.vi, h.base, h.live⟩, fun _ => ⟨rfl, rfl⟩⟩, hs1, hlo1, hlo2⟩
theorem VAt.used (h : VAt w S v pg d σ l p f root es tb) :
  Calls Tryz.prog 16 #[.pointer (some ⟨v, 0, none⟩)] w fun e w' => e = .returned (.tuple #[.int .i64 ((2 + (tb ++ bbOf es).length : Nat) : Int), .int .i64 0]) ∧ ∃ S', VAt w' S' v pg d σ l p f root es tb ∧ Step S S' w w' := by
 refine (vused v pg d σ l p f root S w h.obj h.nv h.pgr h.base).mono ?_
 rintro e w' ⟨rfl, S', hp, hs⟩
 have hok := MSt.Ok.start h.pgr.ok.1 h.pgr.ok.2.1 h.base.pd h.base.sd h.base.two h.base.hi h.base.f0 h.base.f1
 have hc : countB f (p.blocks σ) = 2 + (tb ++ bbOf es).length := h.live.own.count hok h.live.all
 rw [hc]
 exact ⟨rfl, S', h.step hp hs h.vi h.base h.live, hs⟩
theorem VAt.check (h : VAt w S v pg d σ l p f root es tb) (hl : es.length ≤ 4090) :
  Calls Tryz.prog 34 #[.pointer (some ⟨v, 0, none⟩)] w fun e w' => e = .returned (.int .i64 0) ∧ ∃ S', VAt w' S' v pg d σ l p f root es tb ∧ Step S S' w w' := by
 refine (vcheck v pg d σ l p f root S w es tb h.obj h.nv h.pgr h.base h.live hl).mono ?_
 rintro e w' ⟨rfl, S', hp, hs⟩
 exact ⟨rfl, S', h.step hp hs h.vi h.base h.live, hs⟩
theorem VAt.blocks (h : VAt w S v pg d σ l p f root es tb) :
  Calls Tryz.prog 24 #[.pointer (some ⟨v, 0, none⟩)] w fun e w' => e = .returned (.int .i64 (p.blocks σ)) ∧ VAt w' S v pg d σ l p f root es tb ∧ Below w.heap.size w w' := by
 refine (vblocks v pg d σ l p _ S w h.obj h.pgr).mono ?_
 rintro e w' ⟨rfl, rfl⟩
 have hb : Below w.heap.size w w.drew := (Below.refl _ w).drew
 exact ⟨rfl, h.below hb, hb⟩
theorem VAt.done (h : VAt w S v pg d σ l p f root es tb) (hb : (l.last : Int) ≤ 1000000000000) :
  Calls Tryz.prog 21 #[.pointer (some ⟨v, 0, none⟩)] w fun e w' => e = .returned (.int .i64 ((l.last : Int) - 1)) ∧ w' = w := vdone v pg d σ l p _ S w h.obj h.pgr hb
end
section
variable {w : World} {S : Nat → Prop} {v t tr : Nat} {mp : VS} {σ : MSt} {root : Int} {es : List Ent} {tb : List Int} {ch : Bool} {root0 : Nat} {es0 : List Ent} {tb0 : List Int}
theorem vat_end {w' : World} {Sp : Nat → Prop} (hv : w.heap[v]? = some (.cells #[.pointer (some ⟨mp.pg, 0, none⟩)] 102 (0, 0))) (hn : ¬ S v) {er : Int} (htx : w.heap[t]? = some (.cells (vtCells mp (some tr) ch er) 118 (0, 0))) (hB : BAt σ root0 es0 tb0) (hp : PgAt w' Sp mp.pg mp.d σ.H.dk σ.H.lg σ.H.pg (.pointer none)) (hS : ∀ g, Sp g → S g) (hk : Keep (fun g => S g ∨ g = t) w w') :
  VAt w' Sp v mp.pg mp.d σ.H.dk σ.H.lg σ.H.pg σ.H.old root0 es0 tb0 ∧ TStep S Sp t tr w w' := by
 have hlt := (Array.getElem?_eq_some_iff.1 hv).1
 exact ⟨⟨(hk.block v hlt (fun e => e.elim hn (v_ne_t hv htx))).trans hv, fun e => hn (hS v e), hp, hB.vi, hB.base, hB.live⟩, hk.mono (fun g _ e => e.imp id .inl), fun g hg => .inl (hS g hg)⟩
theorem TAt.abort (h : TAt w S v t tr mp σ root es tb ch root0 es0 tb0) :
  Calls Tryz.prog 32 #[.pointer (some ⟨t, 0, none⟩)] w fun e w' => e = .returned (.tuple #[]) ∧ ∃ S', VAt w' S' v mp.pg mp.d σ.H.dk σ.H.lg σ.H.pg σ.H.old root0 es0 tb0 ∧ TStep S S' t tr w w' ∧ w'.heap[t]? = some (.cells (vtCells mp none ch 0) 118 (0, 0)) ∧ ¬ S' t := by
 refine (vabort t tr mp ch 0 σ S w h.tx.tx h.tx.inv h.tx.nt).mono ?_
 rintro e w' ⟨rfl, ⟨Sp, hp, hsp⟩, h3, hk⟩
 obtain ⟨a, b⟩ := vat_end h.obj h.nv h.tx.tx h.bas hp hsp hk
 exact ⟨rfl, Sp, a, b, h3, fun e => h.tx.nt (hsp t e)⟩
theorem EAt.abort (h : EAt w S v t tr mp σ ch root0 es0 tb0) :
  Calls Tryz.prog 32 #[.pointer (some ⟨t, 0, none⟩)] w fun e w' => e = .returned (.tuple #[]) ∧ ∃ S', VAt w' S' v mp.pg mp.d σ.H.dk σ.H.lg σ.H.pg σ.H.old root0 es0 tb0 ∧ TStep S S' t tr w w' := by
 obtain ⟨rt, er, hT⟩ := h.tx
 refine (vabort t tr mp ch 12 σ S w hT.tx hT.inv hT.nt).mono ?_
 rintro e w' ⟨rfl, ⟨Sp, hp, hsp⟩, _, hk⟩
 obtain ⟨a, b⟩ := vat_end h.obj h.nv hT.tx h.bas hp hsp hk
 exact ⟨rfl, Sp, a, b⟩
theorem EAt.usable (h : EAt w S v t tr mp σ ch root0 es0 tb0) (key : ByteArray) :
  Calls Tryz.prog 58 #[.pointer (some ⟨t, 0, none⟩), .string key] w fun e w' => w' = w ∧ e = .returned (.int .i64 12) := by
 obtain ⟨rt, er, hT⟩ := h.tx
 have := vusable t mp tr ch 12 key w hT.tx
 unfold usableL at this
 rwa [if_pos (by decide)] at this
theorem EAt.commit (h : EAt w S v t tr mp σ ch root0 es0 tb0) :
  Calls Tryz.prog 15 #[.pointer (some ⟨t, 0, none⟩)] w fun e w' => e = .returned (.tuple #[.int .i64 0, .int .i64 12]) ∧ ∃ S', VAt w' S' v mp.pg mp.d σ.H.dk σ.H.lg σ.H.pg σ.H.old root0 es0 tb0 ∧ TStep S S' t tr w w' :=
 vcommit_no _ 12 w _ (h.usable _) (by decide) h.abort
theorem TAt.spoilt (h : TAt w S v t tr mp σ root es tb ch root0 es0 tb0) {w' : World} (hp : SpoilPost t tr mp S σ ch w w') :
  ∃ σ' S', EAt w' S' v t tr mp σ' ch root0 es0 tb0 ∧ σ'.H = σ.H ∧ TStep S S' t tr w w' := by
 obtain ⟨σ', S', rt, er, hT, hH, hm, hs⟩ := hp
 obtain ⟨a, b⟩ := TAt.objStep h.obj h.nv h.tx.tx h.tx.tree hs
 refine ⟨σ', S', ⟨a, b, ⟨rt, er, hT⟩, ?_⟩, hH, hs⟩
 have := h.bas
 obtain ⟨x, y, z⟩ := this
 rw [← hH] at x y z
 exact ⟨x, y, z⟩
theorem TAt.moved (h : TAt w S v t tr mp σ root es tb ch root0 es0 tb0) {w' : World} {σ' : MSt} {S' : Nat → Prop} {root' : Int} {es' : List Ent} {tb' : List Int} {ch' : Bool} (hT : TxV w' S' t tr mp σ' root' 0 ch' 0) (hL : Live σ' root' es' tb') (hH : σ'.H = σ.H) (hs : TStep S S' t tr w w') (hc : ch' = false → σ' = MSt.start σ'.H.dk σ'.H.lg σ'.H.pg σ'.H.old ∧ es' = es0) : TAt w' S' v t tr mp σ' root' es' tb' ch' root0 es0 tb0 := by
 obtain ⟨a, b⟩ := TAt.objStep h.obj h.nv h.tx.tx h.tx.tree hs
 refine ⟨a, b, hT, hL, ?_, hc⟩
 obtain ⟨x, y, z⟩ := h.bas
 rw [← hH] at x y z
 exact ⟨x, y, z⟩
theorem TAt.get (h : TAt w S v t tr mp σ root es tb ch root0 es0 tb0) (key : ByteArray) (hl : es.length ≤ 4090) (hg : 1 ≤ key.size ∧ key.size ≤ 128) :
  Calls Tryz.prog 18 #[.pointer (some ⟨t, 0, none⟩), .string key] w fun e w' => e = .returned (.tuple #[.string ((lookP (kvOf es) key).getD ByteArray.empty), .bool (lookP (kvOf es) key).isSome, .int .i64 0]) ∧ TAt w' S v t tr mp σ root es tb ch root0 es0 tb0 ∧ Below w.heap.size w w' := by
 obtain ⟨a, o, r, hA⟩ := at_key es key
 refine (vget_live t tr mp root ch σ S w es a o r tb key h.tx h.live hA hl hg).mono ?_
 rintro e w' ⟨rfl, hb⟩
 exact ⟨rfl, h.below hb, hb⟩
theorem TAt.usable (h : TAt w S v t tr mp σ root es tb ch root0 es0 tb0) (key : ByteArray) :
  Calls Tryz.prog 58 #[.pointer (some ⟨t, 0, none⟩), .string key] w fun e w' => w' = w ∧ e = .returned (.int .i64 (usableL 0 key)) := vusable t mp tr ch 0 key w h.tx.tx
end
theorem TrR.root_nat {σ : MSt} {root : Int} {cs : List Pr} {bs : List Int} (h : TrR σ root cs bs) (hc : σ.most ≤ 4096) : ∃ n : Nat, root = n ∧ n ≤ 4096 := by
 rcases h with ⟨rfl, _, _⟩ | ⟨h, ht⟩
 ·exact ⟨0, rfl, Nat.zero_le _⟩
 ·have hb : σ.hasB root = true := by
   cases h with
   | zero => obtain ⟨nd, h1, _⟩ := ht; exact h1.has
   | succ h => obtain ⟨nd, bs', h1, _⟩ := ht; exact h1.has
  obtain ⟨n, e, h1, _⟩ := MSt.hasB_nat hb
  exact ⟨n, e, by omega⟩
theorem ins_same {es l o r : List Ent} {key v : ByteArray} (hA : AtKey es key l o r) (h : lookP (kvOf es) key = some v) : insP (kvOf es) key v = kvOf es := by
 rw [hA.lv] at h
 rcases hA.one with rfl | ⟨e, rfl, hk⟩
 ·cases h
 ·have hv : e.v = v := by simpa using h
  rw [hA.iv e.s v e.b, hA.eq, kvOf_append, kvOf_append, kvOf_append, List.append_assoc]
  congr 1
  simp [kvOf, hk, hv]
theorem ByteArray.bne {a b : ByteArray} (h : a ≠ b) : (a.toList == b.toList) = false := by
 rw [beq_eq_false_iff_ne]
 intro e
 exact h (ByteArray.ext (Array.toList_inj.1 (by rw [toList_eq, toList_eq] at e; exact e)))
section
variable {w : World} {S : Nat → Prop} {v t tr : Nat} {mp : VS} {σ : MSt} {root : Int} {es : List Ent} {tb : List Int} {ch : Bool} {root0 : Nat} {es0 : List Ent} {tb0 : List Int}
def Changed (w : World) (S : Nat → Prop) (v t tr : Nat) (mp : VS) (σ : MSt) (es : List Ent) (tb : List Int) (ch' : Bool) (root0 : Nat) (es0 : List Ent) (tb0 : List Int) (c : Nat) (qs : List Pr) (w' : World) : Prop :=
 ∃ σ' S' root' es' tb', TAt w' S' v t tr mp σ' root' es' tb' ch' root0 es0 tb0 ∧ kvOf es' = qs ∧ σ'.H = σ.H ∧ σ'.most = σ.most ∧ TStep S S' t tr w w' ∧ PkV σ σ' tb c ∧ Chg σ σ' (tb ++ bbOf es) (tb' ++ bbOf es')
def LostT (w : World) (S : Nat → Prop) (v t tr : Nat) (mp : VS) (σ : MSt) (ch : Bool) (root0 : Nat) (es0 : List Ent) (tb0 : List Int) (w' : World) : Prop :=
 ∃ σ' S', EAt w' S' v t tr mp σ' ch root0 es0 tb0 ∧ σ'.H = σ.H ∧ TStep S S' t tr w w'
theorem TAt.put (h : TAt w S v t tr mp σ root es tb ch root0 es0 tb0) (key value : ByteArray) (hl : es.length ≤ 4090) (hg : 1 ≤ key.size ∧ key.size ≤ 128) (hv : value.size ≤ 49152) :
  Calls Tryz.prog 14 #[.pointer (some ⟨t, 0, none⟩), .string key, .string value] w fun e w' =>
   (e = .returned (.int .i64 0) ∧ Changed w S v t tr mp σ es tb (ch || !decide (lookP (kvOf es) key = some value)) root0 es0 tb0 (2 * (es.length + 1) + bcost value) (insP (kvOf es) key value) w') ∨
   (e = .returned (.int .i64 12) ∧ σ.most + nh σ tb < σ.sz + 2 * (es.length + 1) + bcost value ∧ LostT w S v t tr mp σ ch root0 es0 tb0 w') := by
 obtain ⟨a, o, r, hA⟩ := at_key es key
 by_cases hs : lookP (kvOf es) key = some value
 ·refine (vput_same t tr mp root ch σ S w es a o r tb key value h.tx h.live hA hl hg hv hs).mono ?_
  rintro e w' ⟨rfl, hb⟩
  refine .inl ⟨rfl, σ, S, root, es, tb, ?_, (ins_same hA hs).symm, rfl, rfl, TStep.of (Step.of_below hb), fun _ _ t => t, Chg.refl (fun x hx => (h.live.all x hx).1)⟩
  have : (ch || !decide (lookP (kvOf es) key = some value)) = ch := by simp [hs]
  rw [this]
  exact h.below hb
 ·have hc : (ch || !decide (lookP (kvOf es) key = some value)) = true := by simp [hs]
  rw [hc]
  have hno : ∀ (there : Bool) (was : ByteArray), (lookP (kvOf es) key).isSome = there ∧ (lookP (kvOf es) key).getD ByteArray.empty = was → there = true → (was.toList == value.toList) = false := by
   rintro there was ⟨h1, h2⟩ ht
   refine ByteArray.bne fun e => hs ?_
   subst ht
   obtain ⟨x, hx⟩ := Option.isSome_iff_exists.1 h1
   rw [hx] at h2 ⊢
   rw [← e, ← h2]; rfl
  have hput : ∀ (e : Ending) (w' : World), ((e = .returned (.int .i64 0) ∧ PutPost t tr mp S σ es a r tb key value w w') ∨ (e = .returned (.int .i64 12) ∧ σ.most + nh σ tb < σ.sz + 2 * (es.length + 1) + bcost value ∧ SpoilPost t tr mp S σ ch w w')) →
    ((e = .returned (.int .i64 0) ∧ Changed w S v t tr mp σ es tb true root0 es0 tb0 (2 * (es.length + 1) + bcost value) (insP (kvOf es) key value) w') ∨ (e = .returned (.int .i64 12) ∧ σ.most + nh σ tb < σ.sz + 2 * (es.length + 1) + bcost value ∧ LostT w S v t tr mp σ ch root0 es0 tb0 w')) := by
   rintro e w' (⟨rfl, σ', S', root', tb', s, nb, q1, q2, q3, q4, q5⟩ | ⟨rfl, hr, hp⟩)
   ·exact .inl ⟨rfl, σ', S', root', _, tb', h.moved q1 q2 q3.H q4 (fun e => by cases e), (hA.iv s value nb).symm, q3.H, q3.most, q4, q5, q3⟩
   ·exact .inr ⟨rfl, hr, h.spoilt hp⟩
  by_cases hz : value.size ≤ 63
  ·exact (vput_small t tr mp root ch σ S w es a o r tb key value h.tx h.live hA hl hg hz _ _ ⟨rfl, rfl⟩ (hno _ _ ⟨rfl, rfl⟩)).mono hput
  ·exact (vput_long t tr mp root ch σ S w es a o r tb key value h.tx h.live hA hl hg ⟨by omega, hv⟩ _ _ ⟨rfl, rfl⟩ (hno _ _ ⟨rfl, rfl⟩)).mono hput
theorem TAt.no {key : ByteArray} (h : TAt w S v t tr mp σ root es tb ch root0 es0 tb0) (hb : ¬ (1 ≤ key.size ∧ key.size ≤ 128)) :
  Calls Tryz.prog 58 #[.pointer (some ⟨t, 0, none⟩), .string key] w fun e w' => w' = w ∧ e = .returned (.int .i64 1) := by
 have := h.usable key
 unfold usableL at this
 rwa [if_neg (by simp), if_pos (by omega)] at this
def Committed (w : World) (S : Nat → Prop) (v t tr : Nat) (mp : VS) (σ : MSt) (es : List Ent) (tb : List Int) (ch : Bool) (root0 : Nat) (es0 : List Ent) (tb0 : List Int) (e : Ending) (w' : World) : Prop :=
 ∃ S', TStep S S' t tr w w' ∧
  ((ch = false ∧ es = es0 ∧ e = .returned (.tuple #[.int .i64 ((σ.H.lg.last : Int) - 1), .int .i64 0]) ∧ VAt w' S' v mp.pg mp.d σ.H.dk σ.H.lg σ.H.pg σ.H.old root0 es0 tb0) ∨
   (ch = true ∧ (∃ r, (σ.sealed r).im.ks ≠ [] ∧ σ.H.pg.over1 (σ.sealed r).im ∧ (σ.sealed r).im.Ok (σ.H.pg.blocks σ.H.dk) ∧ (σ.sealed r).im.ks.length + countB σ.H.old σ.most ≤ σ.tk + 2) ∧ e = .returned (.tuple #[.int .i64 0, .int .i64 13]) ∧ VAt w' S' v mp.pg mp.d σ.H.dk σ.H.lg σ.H.pg σ.H.old root0 es0 tb0) ∨
   (ch = true ∧ e = .returned (.tuple #[.int .i64 (σ.H.lg.last : Int), .int .i64 0]) ∧ ∃ (σ' : Dk) (l' : Lg) (p' : Pg) (root' : Nat), VAt w' S' v mp.pg mp.d σ' l' p' σ.now root' es tb ∧ l'.last = σ.H.lg.last + 1 ∧ p'.blocks σ' = σ.most ∧ p'.ring = σ.H.pg.ring))
theorem TAt.commit (h : TAt w S v t tr mp σ root es tb ch root0 es0 tb0) (hll : σ.H.lg.last < 100000000000) :
  Calls Tryz.prog 15 #[.pointer (some ⟨t, 0, none⟩)] w (Committed w S v t tr mp σ es tb ch root0 es0 tb0) := by
 have hV := h.bas.vi
 have hI := h.tx.inv
 obtain ⟨hpo, hdo, hlo⟩ : σ.H.pg.Ok σ.H.dk σ.H.lg ∧ σ.H.dk.Ok ∧ σ.H.lg.Ok := by obtain ⟨Sp, T, q, _⟩ := hI; exact q.pg.ok
 have hcap : σ.H.dk.waits.length ≤ 90000 := by have a := hV.wt; have b := hlo.us; have c := hlo.hi; omega
 have hstep : ∀ {S' : Nat → Prop} {w' : World}, Keep (fun g => S g ∨ g = t) w w' → (∀ g, S' g → S g ∨ w.heap.size ≤ g) → TStep S S' t tr w w' := fun a b => ⟨a.mono (fun g _ e => e.imp id .inl), b⟩
 have hobj : ∀ {S' : Nat → Prop} {w' : World}, TStep S S' t tr w w' → w'.heap[v]? = some (.cells #[.pointer (some ⟨mp.pg, 0, none⟩)] 102 (0, 0)) ∧ ¬ S' v := fun a => TAt.objStep h.obj h.nv h.tx.tx h.tx.tree a
 cases ch with
 | false =>
  obtain ⟨h1, h2⟩ := h.ch rfl
  have him : σ.im = Im.none := by rw [h1]; rfl
  have hc : σ.H.pg.commit σ.H.dk σ.H.lg σ.im = (σ.H.dk, σ.H.lg, σ.H.pg, σ.H.lg.last, 0) := by
   rcases commit_law hV hpo hlo (im := σ.im) (by obtain ⟨Sp, T, q, _⟩ := hI; obtain ⟨_, q2⟩ := q.tx; have hm := q.ok.most; rw [← hm]; exact q2.ok) with ⟨_, q⟩ | ⟨q, _⟩ | ⟨q, _⟩
   ·exact q
   ·rw [him] at q; exact absurd rfl q
   ·rw [him] at q; exact absurd rfl q
  refine (vcommit_none t tr mp root σ S w h.tx hV.ld hcap (by omega) (by rw [hc]; show σ.H.lg.last ≤ _; omega)).mono ?_
  rintro e w' ⟨rfl, S', hp, _, _, hk, hn⟩
  rw [hc] at hp ⊢
  have hs := hstep hk hn
  obtain ⟨a, b⟩ := hobj hs
  exact ⟨S', hs, .inl ⟨rfl, h2, rfl, a, b, hp, hV, h.bas.base, h.bas.live⟩⟩
 | true =>
  obtain ⟨r, hr, hr2⟩ := h.live.tree.root_nat hI.ok.cap
  obtain ⟨s1, s2, s3⟩ := sealed_ok hI r
  have hTx := h.tx
  rw [hr] at hTx
  have hlaw := commit_law hV hpo hlo s1
  have hk0 : (σ.H.pg.commit σ.H.dk σ.H.lg (σ.sealed r).im).2.2.2.1 ≤ 1000000000000 := by
   rcases hlaw with ⟨_, q⟩ | ⟨_, _, q⟩ | ⟨_, _, _, _, _, q, _⟩
   ·rw [q]; show σ.H.lg.last ≤ _; omega
   ·rw [q]; exact Nat.zero_le _
   ·rw [q]; show σ.H.lg.last + 1 ≤ _; omega
  refine (vcommit_some t tr mp r σ S w hTx hr2 hV.ld hcap (by omega) hk0).mono ?_
  rintro e w' ⟨rfl, S', hp, _, _, hk, hn⟩
  have hs := hstep hk hn
  obtain ⟨a, b⟩ := hobj hs
  refine ⟨S', hs, .inr ?_⟩
  rcases hlaw with ⟨q, _⟩ | ⟨q1, q2, q⟩ | ⟨_, _, σ', l', p', q, V', e1, e2, e3, e4, e5⟩
  ·exact absurd q s3
  ·rw [q] at hp ⊢
   exact .inl ⟨rfl, ⟨r, q1, q2, s1, s2⟩, rfl, a, b, hp, hV, h.bas.base, h.bas.live⟩
  ·rw [q] at hp ⊢
   have hbl : p'.blocks σ' = σ.most := by rw [hI.ok.most]; unfold Pg.blocks; rw [e2, e4]
   obtain ⟨b1, b2⟩ := live_sealed hI.ok (by have := h.live; rwa [hr] at this) (by omega) hbl V' e5
   refine .inr ⟨rfl, ?_, σ', l', p', r, ⟨a, b, hp, V', b1, b2⟩, e1, hbl, e3⟩
   show Ending.returned (.tuple #[.int .i64 (((σ.H.lg.last + 1 : Nat) : Int) - 1), .int .i64 0]) = _
   rw [show ((σ.H.lg.last + 1 : Nat) : Int) - 1 = σ.H.lg.last by omega]
end
def bsum (kv : List Pr) : Nat := (kv.map fun p => bcost p.2).sum
theorem ValAt.cost {σ : MSt} {s v : ByteArray} {b : List Int} (h : ValAt σ s v b) : b.length = bcost v := by
 rcases h with ⟨_, h2, rfl⟩ | ⟨hd, rs, _, ⟨_, h2⟩, h3, rfl⟩
 ·unfold bcost; rw [if_pos h2]; rfl
 ·unfold bcost
  rw [if_neg (by omega)]
  have e1 := h3.hd.len
  have e2 : v.data.toList.length = v.size := by show v.data.toList.length = v.data.size; simp
  rw [e2] at e1
  simp [blobB, e1]; omega
theorem bsum_ents {σ : MSt} : ∀ {es : List Ent}, (∀ e ∈ es, ValAt σ e.s e.v e.b) → (bbOf es).length = bsum (kvOf es)
 | [], _ => rfl
 | e :: es, h => by
  have h1 := (h e (List.mem_cons_self ..)).cost
  have h2 := bsum_ents (es := es) fun x hx => h x (List.mem_cons_of_mem _ hx)
  rw [bbOf_cons, List.length_append, h1, h2]; rfl
def VS0 (w0 : World) (v N R dn u : Nat) (kv : List Pr) (w : World) : Prop :=
 ∃ S pg d σ l p f root es tb, VAt w S v pg d σ l p f root es tb ∧ VB w0 w S ∧ w0.heap.size ≤ v ∧ p.blocks σ = N ∧ p.ring = R ∧ l.last = dn + 1 ∧ kvOf es = kv ∧ (tb ++ bbOf es).length = u
def TS0 (w0 : World) (v t N R dn u : Nat) (kv0 kv : List Pr) (ch : Bool) (P : Nat) (w : World) : Prop :=
 ∃ S tr mp σ root es tb root0 es0 tb0, TAt w S v t tr mp σ root es tb ch root0 es0 tb0 ∧ VB w0 w S ∧ w0.heap.size ≤ v ∧ w0.heap.size ≤ t ∧ w0.heap.size ≤ tr ∧ σ.most = N ∧ σ.H.pg.ring = R ∧ σ.H.lg.last = dn + 1 ∧ kvOf es = kv ∧ kvOf es0 = kv0 ∧ (tb0 ++ bbOf es0).length = u ∧ σ.tk ≤ P
def ES0 (w0 : World) (v t N R dn u : Nat) (kv0 : List Pr) (w : World) : Prop :=
 ∃ S tr mp σ ch root0 es0 tb0, EAt w S v t tr mp σ ch root0 es0 tb0 ∧ VB w0 w S ∧ w0.heap.size ≤ v ∧ w0.heap.size ≤ t ∧ w0.heap.size ≤ tr ∧ σ.H.pg.blocks σ.H.dk = N ∧ σ.H.pg.ring = R ∧ σ.H.lg.last = dn + 1 ∧ kvOf es0 = kv0 ∧ (tb0 ++ bbOf es0).length = u
def DS0 (w0 : World) (t : Nat) (w : World) : Prop := Below w0.heap.size w0 w ∧ w0.heap.size ≤ t ∧ ∃ mp ch er, w.heap[t]? = some (.cells (vtCells mp none ch er) 118 (0, 0))
section
variable {w0 w : World} {v t N R dn u P : Nat} {kv kv0 : List Pr} {ch : Bool}
theorem VS0.bel (h : VS0 w0 v N R dn u kv w) : Below w0.heap.size w0 w := by obtain ⟨_, _, _, _, _, _, _, _, _, _, _, h, _⟩ := h; exact h.bel
theorem TS0.bel (h : TS0 w0 v t N R dn u kv0 kv ch P w) : Below w0.heap.size w0 w := by obtain ⟨_, _, _, _, _, _, _, _, _, _, _, h, _⟩ := h; exact h.bel
theorem ES0.bel (h : ES0 w0 v t N R dn u kv0 w) : Below w0.heap.size w0 w := by obtain ⟨_, _, _, _, _, _, _, _, _, h, _⟩ := h; exact h.bel
theorem VS0.below {w' : World} (h : VS0 w0 v N R dn u kv w) (hb : Below w.heap.size w w') : VS0 w0 v N R dn u kv w' := by
 obtain ⟨S, pg, d, σ, l, p, f, root, es, tb, hA, hB, h1⟩ := h
 exact ⟨S, pg, d, σ, l, p, f, root, es, tb, hA.below hb, hB.below hb, h1⟩
theorem TS0.below {w' : World} (h : TS0 w0 v t N R dn u kv0 kv ch P w) (hb : Below w.heap.size w w') : TS0 w0 v t N R dn u kv0 kv ch P w' := by
 obtain ⟨S, tr, mp, σ, root, es, tb, root0, es0, tb0, hA, hB, h1⟩ := h
 exact ⟨S, tr, mp, σ, root, es, tb, root0, es0, tb0, hA.below hb, hB.below hb, h1⟩
theorem EAt.below {S : Nat → Prop} {tr : Nat} {mp : VS} {σ : MSt} {root0 : Nat} {es0 : List Ent} {tb0 : List Int} {w' : World} (h : EAt w S v t tr mp σ ch root0 es0 tb0) (hb : Below w.heap.size w w') : EAt w' S v t tr mp σ ch root0 es0 tb0 := by
 obtain ⟨a, b, ⟨r, e, c⟩, d⟩ := h
 exact ⟨(hb.block v (Array.getElem?_eq_some_iff.1 a).1).trans a, b, ⟨r, e, c.below hb⟩, d⟩
theorem ES0.below {w' : World} (h : ES0 w0 v t N R dn u kv0 w) (hb : Below w.heap.size w w') : ES0 w0 v t N R dn u kv0 w' := by
 obtain ⟨S, tr, mp, σ, ch, root0, es0, tb0, hA, hB, h1⟩ := h
 exact ⟨S, tr, mp, σ, ch, root0, es0, tb0, hA.below hb, hB.below hb, h1⟩
theorem VS0.make (w0 w : World) (n : Nat) (log : Nat) (hb : Below w0.heap.size w0 w) (d : Nat) (S : Nat → Prop) (h : Dsk w S d (Dk.new n)) (hS : ∀ g, S g → w0.heap.size ≤ g) (h1 : 6 ≤ log) (h2 : log + 8 ≤ n) :
  Calls Tryz.prog 11 #[.pointer (some ⟨d, 0, none⟩), .int .i64 log] w fun e w' => ∃ v, e = .returned (.tuple #[.pointer (some ⟨v, 0, none⟩), .int .i64 0]) ∧ VS0 w0 v (n - log) (log - 1) 0 0 [] w' := by
 refine (vmake d (Dk.new n) S log w h ⟨rfl, rfl⟩ h1 h2 (Nat.zero_le _)).mono ?_
 rintro e w' ⟨v, pg, σ', l', p', S', rfl, hobj, hn, hlo, hp, hN, hs⟩
 refine ⟨v, rfl, S', pg, d, σ', l', p', two, 0, [], [], ⟨hobj, hn, hp, hN.vi, hN.base, NewV.live⟩, VB.step ⟨hb, hS⟩ hs, Nat.le_trans hb.size hlo, ?_, hN.ring, hN.last, rfl, rfl⟩
 unfold Pg.blocks
 rw [hN.n, hN.skip]; rfl
theorem VS0.begin (h : VS0 w0 v N R dn u kv w) :
  Calls Tryz.prog 13 #[.pointer (some ⟨v, 0, none⟩)] w fun e w' => ∃ t, e = .returned (.tuple #[.pointer (some ⟨t, 0, none⟩), .int .i64 0]) ∧ TS0 w0 v t N R dn u kv kv false (2 + u) w' := by
 obtain ⟨S, pg, d, σ, l, p, f, root, es, tb, hA, hB, h1, h2, h3, h4, h5, h6⟩ := h
 refine hA.begin.mono ?_
 rintro e w' ⟨t, tr, mp, S', rfl, _, _, hT, hs, hl1, hl2⟩
 have hok := MSt.Ok.start hA.pgr.ok.1 hA.pgr.ok.2.1 hA.base.pd hA.base.sd hA.base.two hA.base.hi hA.base.f0 hA.base.f1
 have hc : countB f (p.blocks σ) = 2 + (tb ++ bbOf es).length := hA.live.own.count hok hA.live.all
 exact ⟨t, rfl, S', tr, mp, _, root, es, tb, root, es, tb, hT, hB.step hs, h1, Nat.le_trans hB.bel.size hl1, Nat.le_trans hB.bel.size hl2, h2, h3, h4, h5, h5, h6, by rw [← h6, ← hc]; exact Nat.le_refl _⟩
theorem VS0.used (h : VS0 w0 v N R dn u kv w) :
  Calls Tryz.prog 16 #[.pointer (some ⟨v, 0, none⟩)] w fun e w' => e = .returned (.tuple #[.int .i64 ((2 + u : Nat) : Int), .int .i64 0]) ∧ VS0 w0 v N R dn u kv w' := by
 obtain ⟨S, pg, d, σ, l, p, f, root, es, tb, hA, hB, h1, h2, h3, h4, h5, h6⟩ := h
 refine hA.used.mono ?_
 rintro e w' ⟨rfl, S', hV, hs⟩
 rw [h6]
 exact ⟨rfl, S', pg, d, σ, l, p, f, root, es, tb, hV, hB.step hs, h1, h2, h3, h4, h5, h6⟩
theorem VS0.check (h : VS0 w0 v N R dn u kv w) (hl : kv.length ≤ 4090) :
  Calls Tryz.prog 34 #[.pointer (some ⟨v, 0, none⟩)] w fun e w' => e = .returned (.int .i64 0) ∧ VS0 w0 v N R dn u kv w' := by
 obtain ⟨S, pg, d, σ, l, p, f, root, es, tb, hA, hB, h1, h2, h3, h4, h5, h6⟩ := h
 refine (hA.check (by rw [← kvOf_length, h5]; exact hl)).mono ?_
 rintro e w' ⟨rfl, S', hV, hs⟩
 exact ⟨rfl, S', pg, d, σ, l, p, f, root, es, tb, hV, hB.step hs, h1, h2, h3, h4, h5, h6⟩
theorem VS0.blocks (h : VS0 w0 v N R dn u kv w) :
  Calls Tryz.prog 24 #[.pointer (some ⟨v, 0, none⟩)] w fun e w' => e = .returned (.int .i64 N) ∧ VS0 w0 v N R dn u kv w' := by
 obtain ⟨S, pg, d, σ, l, p, f, root, es, tb, hA, hB, h1, h2, h3, h4, h5, h6⟩ := h
 refine hA.blocks.mono ?_
 rintro e w' ⟨rfl, hV, hb⟩
 exact ⟨by rw [h2], S, pg, d, σ, l, p, f, root, es, tb, hV, hB.below hb, h1, h2, h3, h4, h5, h6⟩
theorem VS0.done (h : VS0 w0 v N R dn u kv w) (hd : dn ≤ 100000000) :
  Calls Tryz.prog 21 #[.pointer (some ⟨v, 0, none⟩)] w fun e w' => e = .returned (.int .i64 dn) ∧ w' = w := by
 obtain ⟨S, pg, d, σ, l, p, f, root, es, tb, hA, hB, h1, h2, h3, h4, h5, h6⟩ := h
 refine (hA.done (by omega)).mono ?_
 rintro e w' ⟨rfl, rfl⟩
 exact ⟨by rw [show (l.last : Int) - 1 = dn by omega], rfl⟩
theorem TS0.done (h : TS0 w0 v t N R dn u kv0 kv ch P w) (hd : dn ≤ 100000000) :
  Calls Tryz.prog 21 #[.pointer (some ⟨v, 0, none⟩)] w fun e w' => e = .returned (.int .i64 dn) ∧ w' = w := by
 obtain ⟨S, tr, mp, σ, root, es, tb, root0, es0, tb0, hA, hB, h1, h2, h3, h4, h5, h6, h7, h8⟩ := h
 obtain ⟨Sp, T, hI, _⟩ := hA.tx.inv
 refine (vdone v mp.pg mp.d _ _ _ _ Sp w hA.obj hI.pg (by omega)).mono ?_
 rintro e w' ⟨rfl, rfl⟩
 exact ⟨by rw [show (σ.H.lg.last : Int) - 1 = dn by omega], rfl⟩
theorem TS0.sizes {S : Nat → Prop} {tr : Nat} {mp : VS} {σ : MSt} {root : Int} {es : List Ent} {tb : List Int} {root0 : Nat} {es0 : List Ent} {tb0 : List Int} (h : TAt w S v t tr mp σ root es tb ch root0 es0 tb0) :
  σ.sz ≤ 2 + (tb0 ++ bbOf es0).length + nh σ tb + bsum (kvOf es) ∧ countB σ.H.old σ.most = 2 + (tb0 ++ bbOf es0).length := by
 have hI := h.tx.inv
 have e1 := h.live.own.size
 have hm := hI.ok.most
 obtain ⟨hpo, hdo, hlo⟩ : σ.H.pg.Ok σ.H.dk σ.H.lg ∧ σ.H.dk.Ok ∧ σ.H.lg.Ok := by obtain ⟨Sp, T, q, _⟩ := hI; exact q.pg.ok
 have hB := h.bas.base
 have hok := MSt.Ok.start hpo hdo hB.pd hB.sd hB.two hB.hi hB.f0 hB.f1
 have hc : countB σ.H.old (σ.H.pg.blocks σ.H.dk) = 2 + (tb0 ++ bbOf es0).length := h.bas.live.own.count hok h.bas.live.all
 rw [← hm] at hc
 rw [nh_append, hc] at e1
 have e2 := nh_le σ (bbOf es)
 rw [bsum_ents h.live.val] at e2
 exact ⟨by omega, hc⟩
theorem TS0.get (h : TS0 w0 v t N R dn u kv0 kv ch P w) (key : ByteArray) (hl : kv.length ≤ 4090) (hg : 1 ≤ key.size ∧ key.size ≤ 128) :
  Calls Tryz.prog 18 #[.pointer (some ⟨t, 0, none⟩), .string key] w fun e w' => e = .returned (.tuple #[.string ((lookP kv key).getD ByteArray.empty), .bool (lookP kv key).isSome, .int .i64 0]) ∧ TS0 w0 v t N R dn u kv0 kv ch P w' := by
 obtain ⟨S, tr, mp, σ, root, es, tb, root0, es0, tb0, hA, hB, h1, h2, h3, h4, h5, h6, h7, h8⟩ := h
 refine (hA.get key (by rw [← kvOf_length, h7]; exact hl) hg).mono ?_
 rintro e w' ⟨rfl, hT, hb⟩
 exact ⟨by rw [h7], S, tr, mp, σ, root, es, tb, root0, es0, tb0, hT, hB.below hb, h1, h2, h3, h4, h5, h6, h7, h8⟩
theorem TS0.put (h : TS0 w0 v t N R dn u kv0 kv ch P w) (key value : ByteArray) (hl : kv.length ≤ 4090) (hg : 1 ≤ key.size ∧ key.size ≤ 128) (hv : value.size ≤ 49152) (hP : 2 + u + bsum kv + 2 * (kv.length + 1) + bcost value ≤ P) :
  Calls Tryz.prog 14 #[.pointer (some ⟨t, 0, none⟩), .string key, .string value] w fun e w' =>
   (e = .returned (.int .i64 0) ∧ TS0 w0 v t N R dn u kv0 (insP kv key value) (ch || !decide (lookP kv key = some value)) P w') ∨
   (e = .returned (.int .i64 12) ∧ N < 2 + u + bsum kv + 2 * (kv.length + 1) + bcost value ∧ ES0 w0 v t N R dn u kv0 w') := by
 obtain ⟨S, tr, mp, σ, root, es, tb, root0, es0, tb0, hA, hB, h1, h2, h3, h4, h5, h6, h7, h8, h9, h10⟩ := h
 obtain ⟨e1, e2⟩ := TS0.sizes hA
 have hel : es.length = kv.length := by rw [← h7, kvOf_length]
 rw [h9, h7] at e1
 have hm := hA.tx.inv.ok.most
 refine (hA.put key value (by omega) hg hv).mono ?_
 rintro e w' (⟨rfl, σ', S', root', es', tb', q1, q2, q3, q4, q5, q6, q7⟩ | ⟨rfl, q0, σ', S', q1, q2, q3⟩)
 ·refine .inl ⟨rfl, S', tr, mp, σ', root', es', tb', root0, es0, tb0, ?_, hB.tstep h2 h3 q5, h1, h2, h3, by rw [q4, h4], by rw [q3, h5], by rw [q3, h6], by rw [q2, h7], h8, h9, q6 P (by omega) h10⟩
  rw [h7] at q1; exact q1
 ·exact .inr ⟨rfl, by omega, S', tr, mp, σ', ch, root0, es0, tb0, q1, hB.tstep h2 h3 q3, h1, h2, h3, by rw [q2, ← hm, h4], by rw [q2, h5], by rw [q2, h6], h8, h9⟩
theorem TS0.abort (h : TS0 w0 v t N R dn u kv0 kv ch P w) :
  Calls Tryz.prog 32 #[.pointer (some ⟨t, 0, none⟩)] w fun e w' => e = .returned (.tuple #[]) ∧ VS0 w0 v N R dn u kv0 w' ∧ DS0 w0 t w' := by
 obtain ⟨S, tr, mp, σ, root, es, tb, root0, es0, tb0, hA, hB, h1, h2, h3, h4, h5, h6, h7, h8, h9, h10⟩ := h
 have hm := hA.tx.inv.ok.most
 refine hA.abort.mono ?_
 rintro e w' ⟨rfl, S', hV, hs, hc, _⟩
 have hB' := hB.tstep h2 h3 hs
 exact ⟨rfl, ⟨S', _, _, _, _, _, _, root0, es0, tb0, hV, hB', h1, by rw [← hm, h4], h5, h6, h8, h9⟩, hB'.bel, h2, mp, ch, 0, hc⟩
theorem ES0.abort (h : ES0 w0 v t N R dn u kv0 w) :
  Calls Tryz.prog 32 #[.pointer (some ⟨t, 0, none⟩)] w fun e w' => e = .returned (.tuple #[]) ∧ VS0 w0 v N R dn u kv0 w' := by
 obtain ⟨S, tr, mp, σ, ch, root0, es0, tb0, hA, hB, h1, h2, h3, h4, h5, h6, h7, h8⟩ := h
 refine hA.abort.mono ?_
 rintro e w' ⟨rfl, S', hV, hs⟩
 exact ⟨rfl, S', _, _, _, _, _, _, root0, es0, tb0, hV, hB.tstep h2 h3 hs, h1, h4, h5, h6, h7, h8⟩
theorem ES0.commit (h : ES0 w0 v t N R dn u kv0 w) :
  Calls Tryz.prog 15 #[.pointer (some ⟨t, 0, none⟩)] w fun e w' => e = .returned (.tuple #[.int .i64 0, .int .i64 12]) ∧ VS0 w0 v N R dn u kv0 w' := by
 obtain ⟨S, tr, mp, σ, ch, root0, es0, tb0, hA, hB, h1, h2, h3, h4, h5, h6, h7, h8⟩ := h
 refine hA.commit.mono ?_
 rintro e w' ⟨rfl, S', hV, hs⟩
 exact ⟨rfl, S', _, _, _, _, _, _, root0, es0, tb0, hV, hB.tstep h2 h3 hs, h1, h4, h5, h6, h7, h8⟩
theorem ES0.usable (h : ES0 w0 v t N R dn u kv0 w) (key : ByteArray) :
  Calls Tryz.prog 58 #[.pointer (some ⟨t, 0, none⟩), .string key] w fun e w' => w' = w ∧ e = .returned (.int .i64 12) := by
 obtain ⟨S, tr, mp, σ, ch, root0, es0, tb0, hA, _⟩ := h
 exact hA.usable key
theorem TS0.no {key : ByteArray} (h : TS0 w0 v t N R dn u kv0 kv ch P w) (hb : ¬ (1 ≤ key.size ∧ key.size ≤ 128)) :
  Calls Tryz.prog 58 #[.pointer (some ⟨t, 0, none⟩), .string key] w fun e w' => w' = w ∧ e = .returned (.int .i64 1) := by
 obtain ⟨S, tr, mp, σ, root, es, tb, root0, es0, tb0, hA, _⟩ := h
 exact hA.no hb
theorem TS0.busy (h : TS0 w0 v t N R dn u kv0 kv ch P w) :
  Calls Tryz.prog 13 #[.pointer (some ⟨v, 0, none⟩)] w fun e w' => w' = w ∧ e = .returned (.tuple #[.pointer none, .int .i64 6]) := by
 obtain ⟨S, tr, mp, σ, root, es, tb, root0, es0, tb0, hA, _⟩ := h
 obtain ⟨Sp, T, hI, _⟩ := hA.tx.inv
 exact vbegin_busy v mp.pg mp.d _ _ _ mp.tx Sp w hA.obj hI.pg hI.ok.live
def needI (k : Nat) : Nat := (16 + 520 * k + 511) / 512
theorem TS0.commit (h : TS0 w0 v t N R dn u kv0 kv ch P w) (hd : dn ≤ 100000000) :
  Calls Tryz.prog 15 #[.pointer (some ⟨t, 0, none⟩)] w fun e w' =>
   (ch = false ∧ kv = kv0 ∧ e = .returned (.tuple #[.int .i64 dn, .int .i64 0]) ∧ VS0 w0 v N R dn u kv0 w') ∨
   (ch = true ∧ (R < needI (P - u) ∨ 1024 < P - u) ∧ e = .returned (.tuple #[.int .i64 0, .int .i64 13]) ∧ VS0 w0 v N R dn u kv0 w') ∨
   (ch = true ∧ e = .returned (.tuple #[.int .i64 ((dn + 1 : Nat) : Int), .int .i64 0]) ∧ ∃ u', VS0 w0 v N R (dn + 1) u' kv w') := by
 obtain ⟨S, tr, mp, σ, root, es, tb, root0, es0, tb0, hA, hB, h1, h2, h3, h4, h5, h6, h7, h8, h9, h10⟩ := h
 have hm := hA.tx.inv.ok.most
 obtain ⟨_, e2⟩ := TS0.sizes hA
 refine (hA.commit (by omega)).mono ?_
 rintro e w' ⟨S', hs, (⟨rfl, q1, rfl, q2⟩ | ⟨rfl, ⟨r, q1, q2, q3, q4⟩, rfl, q5⟩ | ⟨rfl, rfl, σ', l', p', root', q1, q2, q3, q4⟩)⟩
 all_goals have hB' := hB.tstep h2 h3 hs
 ·refine .inl ⟨rfl, by rw [← h7, ← h8, q1], by rw [show (σ.H.lg.last : Int) - 1 = dn by omega], S', _, _, _, _, _, _, root0, es0, tb0, q2, hB', h1, by rw [← hm, h4], h5, h6, h8, h9⟩
 ·refine .inr (.inl ⟨rfl, ?_, rfl, S', _, _, _, _, _, _, root0, es0, tb0, q5, hB', h1, by rw [← hm, h4], h5, h6, h8, h9⟩)
  unfold Pg.over1 at q2
  rw [need_im q3, h5] at q2
  unfold needI
  rw [e2, h9] at q4
  omega
 ·exact .inr (.inr ⟨rfl, by rw [h6], _, S', _, _, σ', l', p', _, root', es, tb, q1, hB', h1, by rw [q3, h4], by rw [q4, h5], by rw [q2, h6], h7, rfl⟩)
theorem DS0.usable (h : DS0 w0 t w) (key : ByteArray) :
  Calls Tryz.prog 58 #[.pointer (some ⟨t, 0, none⟩), .string key] w fun e w' => w' = w ∧ e = .returned (.int .i64 2) := by
 obtain ⟨_, _, mp, ch, er, hc⟩ := h
 exact vusable_end t mp ch er key w hc
theorem DS0.abort (h : DS0 w0 t w) :
  Calls Tryz.prog 32 #[.pointer (some ⟨t, 0, none⟩)] w fun e w' => w' = w ∧ e = .returned (.tuple #[]) := by
 obtain ⟨_, _, mp, ch, er, hc⟩ := h
 exact vabort_done t mp ch er w hc
end
theorem TS0.more {w0 w : World} {v t N R dn u P P' : Nat} {kv kv0 : List Pr} {ch : Bool} (h : TS0 w0 v t N R dn u kv0 kv ch P w) (hp : P ≤ P') : TS0 w0 v t N R dn u kv0 kv ch P' w := by
 obtain ⟨S, tr, mp, σ, root, es, tb, root0, es0, tb0, hA, hB, h1, h2, h3, h4, h5, h6, h7, h8, h9, h10⟩ := h
 exact ⟨S, tr, mp, σ, root, es, tb, root0, es0, tb0, hA, hB, h1, h2, h3, h4, h5, h6, h7, h8, h9, Nat.le_trans h10 hp⟩
theorem insP_nil (k x : ByteArray) : insP [] k x = [(k, x)] := rfl
theorem lookP_one (k x : ByteArray) : lookP [(k, x)] k = some x := by
 have h : lt k k = false := lt_irrefl k
 have hp : posAt [(k, x)] k = 0 := by unfold posAt; simp [h]
 unfold lookP isAt
 rw [hp]
 simp
theorem TS0.put_ok {w0 w : World} {v t N R dn u P : Nat} {kv kv0 : List Pr} {ch : Bool} (h : TS0 w0 v t N R dn u kv0 kv ch P w) (key value : ByteArray) (hl : kv.length ≤ 4090) (hg : 1 ≤ key.size ∧ key.size ≤ 128) (hv : value.size ≤ 49152) (Q : Nat) (hQ : Q = max P (2 + u + bsum kv + 2 * (kv.length + 1) + bcost value)) (hN : 2 + u + bsum kv + 2 * (kv.length + 1) + bcost value ≤ N) :
  Calls Tryz.prog 14 #[.pointer (some ⟨t, 0, none⟩), .string key, .string value] w fun e w' =>
   e = .returned (.int .i64 0) ∧ TS0 w0 v t N R dn u kv0 (insP kv key value) (ch || !decide (lookP kv key = some value)) Q w' := by
 refine ((h.more (P' := Q) (by omega)).put key value hl hg hv (by omega)).mono ?_
 rintro e w' (h | ⟨_, h, _⟩)
 ·exact h
 ·omega
theorem TS0.commit_ok {w0 w : World} {v t N R dn u P : Nat} {kv kv0 : List Pr} (h : TS0 w0 v t N R dn u kv0 kv true P w) (hd : dn ≤ 100000000) (hR : needI (P - u) ≤ R) (hP : P - u ≤ 1024) :
  Calls Tryz.prog 15 #[.pointer (some ⟨t, 0, none⟩)] w fun e w' =>
   e = .returned (.tuple #[.int .i64 ((dn + 1 : Nat) : Int), .int .i64 0]) ∧ ∃ u', VS0 w0 v N R (dn + 1) u' kv w' := by
 refine (h.commit hd).mono ?_
 rintro e w' (⟨h, _⟩ | ⟨_, h, _⟩ | ⟨_, h⟩)
 ·cases h
 ·omega
 ·exact h
theorem fixed_any (w : World) : Calls Tryz.prog 10 #[] w fun e w' => e = .returned (.bool true) ∧ Below w.heap.size w w' := by
 go_enter Tryz.func10, Tryz.ntmps10
 go_wp2_with (first
  | (go_at_call 12; go_must ((refine (dnew 40 w).mono ?_); rintro e w1 ⟨d, S, rfl, hD, hb1, hS⟩; have HV := Lib.hid (VS0.make w w1 40 12 hb1 d S hD hS (by omega) (by omega)); clear hD hb1 hS))
  | (go_at_call 11; go_must ((refine HV.out.mono ?_); rintro e w2 ⟨v, rfl, hV2⟩; clear HV))
  | (go_at_call 24; go_must ((refine hV2.blocks.mono ?_); rintro e w3 ⟨rfl, hV3⟩; clear hV2))
  | (go_at_call 21; go_must ((refine (hV3.done (by omega)).mono ?_); rintro e w4 ⟨rfl, hw⟩; subst w4))
  | (go_at_call 13; go_must ((refine hV3.begin.mono ?_); rintro e w5 ⟨t, rfl, hT5⟩; clear hV3))
  | (go_at_call 14; go_must ((refine (hT5.put_ok ⟨#[97]⟩ ⟨#[120]⟩ (by simp) ⟨by decide, by decide⟩ (by decide) 4 (by decide) (by decide)).mono ?_); rintro e w6 ⟨rfl, hT6⟩; rw [insP_nil] at hT6; clear hT5))
  | (go_at_call 18; go_must ((refine (hT6.get ⟨#[97]⟩ (by simp) ⟨by decide, by decide⟩).mono ?_); rw [lookP_one]; rintro e w7 ⟨rfl, hT7⟩; clear hT6; have HC := Lib.hid (TS0.commit_ok hT7 (by omega) (by decide) (by decide)); clear hT7))
  | (go_at_call 15; go_must ((refine HC.out.mono ?_); rintro e w8 ⟨rfl, u', hV8⟩; clear HC))
  | (go_at_call 34; go_must ((refine (hV8.check (by simp)).mono ?_); rintro e w9 ⟨rfl, hV9⟩; clear hV8)))
 go_ret
 exact ⟨rfl, hV9.bel⟩
theorem vnone_walk (kind n : Int) (key value : ByteArray) (w : World) :
  Calls Tryz.prog 5 #[.agg #[.int .u8 kind, .string key, .string value, .int .i64 n]] w fun e w' => e = .returned (.bool true) ∧ Below w.heap.size w w' := by
 go_enter Tryz.func5, Tryz.ntmps5
 have hb0 := below_one w (.cells #[.int .u8 kind, .string key, .string value, .int .i64 n] 24)
 have hc := heap_alloc_new w (.cells #[.int .u8 kind, .string key, .string value, .int .i64 n] 24)
 have hsz : (w.alloc (.cells #[.int .u8 kind, .string key, .string value, .int .i64 n] 24)).heap.size = w.heap.size + 1 := by simp
 have HC := Lib.hid hc; have HS := Lib.hid hsz; have HB := Lib.hid hb0
 clear hc hsz hb0
 go_wp2_with (first
  | (go_at_call 10; go_must ((refine (fixed_any _).mono ?_); rintro e w1 ⟨rfl, hb1⟩; refine Stop.of ?_)))
 have hw1 : Below w.heap.size w w1 := HB.out.trans (hb1.mono HB.out.size)
 have hcell : w1.heap[w.heap.size]? = some (.cells #[.int .u8 kind, .string key, .string value, .int .i64 n] 24 (0, 0)) := (hb1.block _ (by rw [HS.out]; omega)).trans HC.out
 have hl1 := (Array.getElem?_eq_some_iff.1 hcell).1
 clear hb1
 refine Stop.on ?_
 have HN := Lib.hid (vused_no none 2 w1 (vbegin_nil w1) (by decide))
 have HN2 := Lib.hid (vcheck_no none 2 w1 (vbegin_nil w1) (by decide))
 go_wp2_with (first
  | (go_at_call 13; go_must ((refine (vbegin_nil _).mono ?_); rintro e w2 ⟨hw, rfl⟩; subst w2))
  | (go_at_call 16; go_must ((refine HN.out.mono ?_); rintro e w2 ⟨hw, rfl⟩; subst w2))
  | (go_at_call 30; go_must ((refine (vsync_nil _).mono ?_); rintro e w2 ⟨hw, rfl⟩; subst w2))
  | (go_at_call 34; go_must ((refine HN2.out.mono ?_); rintro e w2 ⟨hw, rfl⟩; subst w2))
  | (go_at_call 21; go_must ((refine (vdone_nil _).mono ?_); rintro e w2 ⟨hw, rfl⟩; subst w2))
  | (go_at_call 31; go_must ((refine (vsynced_nil _).mono ?_); rintro e w2 ⟨hw, rfl⟩; subst w2))
  | (go_at_call 24; go_must ((refine (vblocks_nil _).mono ?_); rintro e w2 ⟨hw, rfl⟩; subst w2))
  | (go_at_call 12; go_must ((refine (dnew 40 w1).mono ?_); rintro e w2 ⟨d, S, rfl, hD, hb2, hS⟩; have HV := Lib.hid (And.intro (VS0.make w1 w2 40 12 hb2 d S hD hS (by omega) (by omega)) trivial); clear hD hb2 hS))
  | (go_at_call 11; go_must ((refine HV.out.1.mono ?_); rintro e w3 ⟨v, rfl, hV3⟩; refine Stop.of ?_)))
 refine Stop.on ?_
 clear HV
 go_wp2_with (first
  | (go_at_call 13; go_must ((refine hV3.begin.mono ?_); rintro e w4 ⟨t, rfl, hT4⟩; refine Stop.of ?_)))
 refine Stop.on ?_
 clear hV3
 have HU := Lib.hid (vused_no (some ⟨v, 0, none⟩) 6 w4 hT4.busy (by decide))
 go_wp2_with (first
  | (go_at_call 13; go_must ((refine hT4.busy.mono ?_); rintro e w5 ⟨hw, rfl⟩; subst w5))
  | (go_at_call 16; go_must ((refine HU.out.mono ?_); rintro e w5 ⟨hw, rfl⟩; subst w5))
  | (go_at_call 32; go_must ((refine hT4.abort.mono ?_); rintro e w5 ⟨rfl, -, hD5⟩; refine Stop.of ?_)))
 refine Stop.on ?_
 have hb5 := hD5.1
 have hcell5 := (hb5.block _ hl1).trans hcell
 have hw5 := hw1.trans (hb5.mono hw1.size)
 clear hT4 HU hcell hl1 hb5 hw1 HN HN2
 have c1 : w5.cell? ⟨w.heap.size, 1, none⟩ = some (.string key) := by simp [World.cell?, hcell5]
 have c2 : w5.cell? ⟨w.heap.size, 2, none⟩ = some (.string value) := by simp [World.cell?, hcell5]
 have c3 : w5.cell? ⟨w.heap.size, 3, none⟩ = some (.int .i64 n) := by simp [World.cell?, hcell5]
 have hl5 := (Array.getElem?_eq_some_iff.1 hcell5).1
 have HUE := Lib.hid (show ∀ tp : Option Addr, (tp = some ⟨t, 0, none⟩ ∨ tp = none) → (∀ k : ByteArray, Calls Tryz.prog 58 #[.pointer tp, .string k] w5 fun e w' => w' = w5 ∧ e = .returned (.int .i64 2)) ∧ Calls Tryz.prog 32 #[.pointer tp] w5 fun e w' => w' = w5 ∧ e = .returned (.tuple #[]) from fun tp h => by
  rcases h with rfl | rfl
  ·exact ⟨fun k => hD5.usable k, hD5.abort⟩
  ·exact ⟨fun k => vusable_nil k w5, vabort_nil w5⟩)
 clear hcell5 hD5
 go_wp2_with fail
 go_loopw [10, 16, 17, 18, 19, 20, 21, 22, 23, 24, 25] (fun tp i _ _ _ _ _ _ _ _ _ wr => wr = w5 ∧ ∃ (p : Option Addr) (k : Nat), k ≤ 2 ∧ i = .int .i64 k ∧ tp = .pointer p ∧ (p = some ⟨t, 0, none⟩ ∨ p = none)) (fun _ i _ _ _ _ _ _ _ _ _ _ => 2 - (intOf i).toNat)
 case atStart => exact ⟨rfl, some ⟨t, 0, none⟩, 0, by omega, rfl, rfl, .inl rfl⟩
 case round =>
  obtain ⟨hwr, p, k, hk, rfl, rfl, hp⟩ := hrel
  subst wr
  obtain ⟨hu, ha⟩ := HUE.out p hp
  by_cases hlt : k < 2
  ·have y1 : (k : Int) < 2 := by omega
   have HG := Lib.hid (vget_no p key 2 w5 (hu key) (by decide))
   have HD := Lib.hid (vdelete_no p key 2 w5 (hu key) (by decide))
   have HSC := Lib.hid (vscan_no p key n 2 w5 (hu _) (by decide))
   have HPU := Lib.hid (vput_no p key value 2 w5 (hu key) (by decide))
   have HAB := Lib.hid ha
   have HCO := Lib.hid (vcommit_no p 2 w5 (fun w' => w' = w5) (hu _) (by decide) (ha.mono fun e w' h => ⟨h.2, h.1⟩))
   clear hu ha hp hlt
   go_wp2_with (first
    | (go_at_call 18; go_must ((refine HG.out.mono ?_); rintro e w6 ⟨hw, rfl⟩; subst w6))
    | (go_at_call 19; go_must ((refine HD.out.mono ?_); rintro e w6 ⟨hw, rfl⟩; subst w6))
    | (go_at_call 20; go_must ((refine HSC.out.mono ?_); rintro e w6 ⟨hw, rfl⟩; subst w6))
    | (go_at_call 15; go_must ((refine HCO.out.mono ?_); rintro e w6 ⟨rfl, hw⟩; subst w6))
    | (go_at_call 32; go_must ((refine HAB.out.mono ?_); rintro e w6 ⟨hw, rfl⟩; subst w6))
    | (go_at_call 14; go_must ((refine HPU.out.mono ?_); rintro e w6 ⟨hw, rfl⟩; subst w6)))
   go_roundw
   case rel => exact ⟨by trivial, none, k + 1, by omega, by go_num, rfl, .inr rfl⟩
   case measure => simp [intOf]; omega
  ·obtain rfl : k = 2 := by omega
   go_wp2_with fail
   go_ret
   exact ⟨rfl, hw5⟩
def TailSl (w : World) (B : Nat) (v : Value) (l : List UInt8) : Prop :=
 ∃ (g cap : Nat) (cur : Array Value) (fz : Nat × Nat), v = .slice (some ⟨g, 0, none⟩) l.length cap ∧ B ≤ g ∧ w.heap[g]? = some (.cells cur 5 fz) ∧ (fz.2 ≤ fz.1 ∨ cur.size ≤ fz.1) ∧ l.length ≤ cap ∧ cap ≤ maxLen ∧ cur.size = cap ∧ cur.toList.take l.length = bCells l
theorem TailSl.below {w w' : World} {B : Nat} {v : Value} {l : List UInt8} (h : TailSl w B v l) (hb : Below w.heap.size w w') : TailSl w' B v l := by
 obtain ⟨g, cap, cur, fz, e, h1, h2, h3⟩ := h
 exact ⟨g, cap, cur, fz, e, h1, (hb.block g (Array.getElem?_eq_some_iff.1 h2).1).trans h2, h3⟩
theorem TailSl.isSl {w : World} {B : Nat} {v : Value} {l : List UInt8} (h : TailSl w B v l) : IsSl w NoS 1 v l.length (bCells l) := by
 obtain ⟨g, cap, cur, fz, rfl, h1, h2, h3, h4, h5, h6, h7⟩ := h
 refine ⟨_, _, rfl, h4, h5, by rw [bCells_length, Nat.mul_one], (fun e => by cases e), fun ad hh => ?_, fun j u hu => ?_⟩
 ·cases hh
  exact ⟨rfl, (Array.getElem?_eq_some_iff.1 h2).1, id⟩
 ·refine ⟨_, _, rfl, ?_⟩
  rw [Nat.zero_add, cell_of_row w g j cur _ fz h2]
  rw [← h7, List.getElem?_take] at hu
  split at hu
  ·simpa using hu
  ·cases hu
theorem run_app1 (w : World) (B : Nat) (ty : TypeId) (v : Value) (l : List UInt8) (x : UInt8) (h : TailSl w B v l) (a : Addr) (hx : w.cell? (a.add 0) = some (.int .u8 x.toNat)) (hB : B ≤ w.heap.size) (hl : l.length ≤ 1000000) :
  ∃ v' w', (Builtin.append_ #[86, 86] ty #[v, .slice (some a) 1 1]).run Tryz.prog w = .ok v' w' ∧ TailSl w' B v' (l ++ [x]) ∧ Below B w w' := by
 obtain ⟨g, cap, cur, fz, rfl, h1, h2, h3, h4, h5, h6, h7⟩ := h
 obtain ⟨i, hi, hz, hsize, hby⟩ : ∃ i, Tryz.prog.info? 5 = some i ∧ i.zero = some (.int .u8 0) ∧ i.size = 1 ∧ i.bytes = 1 := by
  have := info_u8
  cases hq : Tryz.prog.info? 5 with
  | none => rw [hq] at this; cases this
  | some i => rw [hq] at this; simp at this; exact ⟨i, rfl, this.1, this.2.1, this.2.2⟩
 have hnews : ∀ j u, [Value.int .u8 x.toNat][j]? = some u → w.cell? (a.add j) = some u := fun j u hu => by
  cases j with
  | zero => cases hu; exact hx
  | succ j => simp at hu
 have hlen : (l ++ [x]).length = l.length + 1 := by simp
 have hbc : bCells (l ++ [x]) = bCells l ++ [.int .u8 x.toNat] := by simp [bCells]
 by_cases hroom : l.length + 1 ≤ cap
 ·have hf := run_firstCells_some (P := Tryz.prog) w i.size 1 a 1 1 [Value.int .u8 x.toNat] (by rw [hsize]; rfl) hnews
  have hin : l.length < cur.size := by omega
  have hcell : w.cell? ⟨g, l.length, none⟩ = some cur[l.length] := by simp [World.cell?, h2, hin]
  have hfro : w.frozen? ⟨g, l.length, none⟩ = false := by
   obtain ⟨lo, hi'⟩ := fz
   simp only [World.frozen?, h2, Bool.and_eq_false_iff, decide_eq_false_iff_not]
   simp only at h3
   omega
  have hst : (storeCells ⟨g, l.length, none⟩ [Value.int .u8 x.toNat] 0).run Tryz.prog w = .ok () (w.setRow g (cur.setIfInBounds l.length (.int .u8 x.toNat))) := by
   have hs1 : (store ((⟨g, l.length, none⟩ : Addr).add 0) (.int .u8 x.toNat)).run Tryz.prog w = .ok () (w.setRow g (cur.setIfInBounds l.length (.int .u8 x.toNat))) := by
    rw [Addr.add_lit, Nat.add_zero, run_store Tryz.prog w _ _ _ rfl, hcell]
    simp [hfro, setCell_eq_setRow w g l.length cur _ fz _ h2]
   simp only [storeCells, Sem.run_bind, hs1, Result.andThen_ok]
   rfl
  refine ⟨.slice (some ⟨g, 0, none⟩) (l.length + 1) cap, w.setRow g (cur.setIfInBounds l.length (.int .u8 x.toNat)), ?_, ⟨g, cap, _, fz, by rw [hlen], h1, setRow_heap w g cur _ _ _ h2, by simpa using h3, by rw [hlen]; exact hroom, h5, by simpa using h6, ?_⟩, ⟨rfl, rfl, rfl, by simp, fun k hk => setRow_other w g k _ (by omega)⟩⟩
  ·simp [Builtin.append_, run_underlying Tryz.underlying86, sizeOf, typeInfo, hi, hsize, Builtin.lenOf, hroom] at hf ⊢
   simp [hf, Addr.add_lit, hst]
  ·have hin' : l.length < (cur.toList.set l.length (Value.int .u8 x.toNat)).length := by simpa using hin
   have e1 : (cur.toList.set l.length (Value.int .u8 x.toNat)).take l.length = cur.toList.take l.length := List.take_set_of_le (Nat.le_refl _)
   have e2 : (cur.toList.set l.length (Value.int .u8 x.toNat)).take (l.length + 1) = bCells l ++ [.int .u8 x.toNat] := by
    rw [List.take_succ_eq_append_getElem hin', e1, h7, List.getElem_set_self]
   rw [hlen, hbc, Array.toList_setIfInBounds]
   exact e2
 ·have holds : ∀ j u, (bCells l)[j]? = some u → w.cell? ((⟨g, 0, none⟩ : Addr).add j) = some u := fun j u hu => by
   rw [Addr.add_lit, Nat.zero_add, cell_of_row w g j cur _ fz h2]
   rw [← h7, List.getElem?_take] at hu
   split at hu
   ·simpa using hu
   ·cases hu
  have hr := run_append_grow (P := Tryz.prog) w 86 ty 5 i (.int .u8 0) Tryz.underlying86 hi hz ⟨g, 0, none⟩ l.length cap (bCells l) (by rw [hsize, bCells_length, Nat.mul_one]) holds a 1 1 [Value.int .u8 x.toNat] (by rw [hsize]; rfl) hnews (by omega) (by omega) (growslice_fits (by omega) (by rw [hby]; omega))
  have hge := grownCap_ge w (l.length + 1) cap 5
  have hcm := grownCap_le_maxLen w (l.length + 1) cap 5 (by simp only [maxLen]; omega)
  refine ⟨_, _, hr, ⟨w.heap.size, _, _, (0, 0), by rw [hlen], hB, heap_alloc_new w.drew _, .inl (Nat.le_refl _), by rw [hlen]; exact hge, hcm, ?_, ?_⟩, ((Below.refl _ w).drew).alloc (by simpa using hB) _⟩
  ·have hz1 : (Value.int IntKind.u8 0).cells.size = 1 := rfl
   simp only [Array.size_append, List.size_toArray, size_zeroCells, hz1, bCells_length, List.length_singleton]
   omega
  ·simp only [Array.toList_append, List.append_assoc]
   rw [hlen, hbc, ← List.append_assoc, show l.length + 1 = (bCells l ++ [Value.int .u8 x.toNat]).length by simp [bCells_length]]
   exact List.take_left
theorem wpList_app1 {ops : Array Oper} {rest : List Oper} {o : Oper} {a : Act} {w : World} {Q : Exit → Act → World → Prop} (hgd : o.guard = none) (s y : Operand) (ho : o.op = .call { callee := .builtin .append, args := #[s, y], argTypes := #[86, 86] })
  (B : Nat) (v : Value) (l : List UInt8) (x : UInt8) (hv : a.eval s = v) (h : TailSl w B v l) (ad : Addr) (hy : a.eval y = .slice (some ad) 1 1) (hx : w.cell? (ad.add 0) = some (.int .u8 x.toNat)) (hB : B ≤ w.heap.size) (hl : l.length ≤ 1000000)
  (hK : ∀ v' w', TailSl w' B v' (l ++ [x]) → Below B w w' → wpList Tryz.prog ops Q rest (a.put o.dst v') w') : wpList Tryz.prog ops Q (o :: rest) a w :=
 wpList_plain hgd fun _ hK' => by
  obtain ⟨v', w', hr, h2, h3⟩ := run_app1 w B o.type v l x h ad hx hB hl
  unfold Oper.wp execOp
  simp only [ho, resolve, invoke, builtin, Sem.run_bind, Sem.run_pure, Result.andThen_ok, List.map_toArray, List.map_cons, List.map_nil, hv, hy, hr]
  exact hK' _ _ (hK v' w' h2 h3)
theorem tail_of (s : ByteArray) (W : World) (hs : s.size ≤ maxLen) : ∃ (v : Value) (w' : World), (convert 9 86 (.string s)).run Tryz.prog W = .ok v w' ∧ TailSl w' W.heap.size v s.data.toList ∧ Below W.heap.size W w' := by
 have hsz : s.data.toList.length = s.size := by show s.data.toList.length = s.data.size; simp
 have hge := grownCap_ge W s.size 0 5
 refine ⟨_, _, run_bytes_of_string W 9 86 5 s Tryz.underlying9 Tryz.underlying86 Tryz.underlying5, ⟨W.heap.size, _, _, _, by rw [hsz], Nat.le_refl _, heap_alloc_new W.drew _, .inr (Nat.le_refl _), by rw [hsz]; exact hge, grownCap_le_maxLen _ _ _ _ hs, ?_, ?_⟩, ((Below.refl _ W).drew).alloc (Nat.le_refl _) _⟩
 ·have h1 : s.data.size = s.size := rfl
  simp only [bytesRow, Array.size_append, Array.size_map, Array.size_replicate, h1]
  omega
 ·rw [hsz]
  simp only [bytesRow, Array.toList_append, Array.toList_map]
  have : (s.data.toList.map fun b => Value.int .u8 b.toNat).length = s.size := by rw [List.length_map, hsz]
  rw [← this, List.take_left]
  rfl
def textK (data : ByteArray) (n : Int) : Nat := min n.toNat (60000 - data.size)
def textR (k : Nat) : List UInt8 := (List.range k).map fun i => UInt8.ofNat (i % 251)
theorem textR_succ (k : Nat) : textR (k + 1) = textR k ++ [UInt8.ofNat (k % 251)] := by simp [textR, List.range_succ]
theorem textR_length (k : Nat) : (textR k).length = k := by simp [textR]
def textL (data : ByteArray) (n : Int) : List UInt8 := data.data.toList ++ textR (textK data n)
theorem text_any (data : ByteArray) (n : Int) (w : World) (hd : data.size ≤ maxLen) :
  Calls Tryz.prog 17 #[.string data, .int .i64 n] w fun e w' => e = .returned (.string (strOf (textL data n))) ∧ Below w.heap.size w w' := by
 obtain ⟨v0, w0, hcv, ht0, hb0⟩ := tail_of data w hd
 have hsz : data.data.toList.length = data.size := by show data.data.toList.length = data.data.size; simp
 obtain ⟨K, hK⟩ : ∃ K, K = textK data n := ⟨_, rfl⟩
 have HK := Lib.hid hK
 have HL := Lib.hid (show textL data n = data.data.toList ++ textR K by rw [hK]; rfl)
 have HT0 := Lib.hid (And.intro ht0 hb0)
 obtain ⟨g0, c0, cur0, fz0, rfl, -⟩ := id ht0
 clear ht0 hb0 hK
 go_enter Tryz.func17, Tryz.ntmps17
 go_wp2_with fail
 go_loopw [5, 6] (fun v i wr => ∃ k : Nat, k ≤ K ∧ i = .int .i64 k ∧ TailSl wr w.heap.size v (data.data.toList ++ textR k) ∧ Below w.heap.size w wr) (fun _ i _ => K - (intOf i).toNat)
 case atStart => exact ⟨0, Nat.zero_le _, rfl, by simpa [textR] using HT0.out.1, HT0.out.2⟩
 case round =>
  obtain ⟨k, hk, rfl, ht, hb⟩ := hrel
  have hk0 : k ≤ 60000 := by have := HK.out; unfold textK at this; omega
  obtain ⟨g, c, cur, fz, rfl, -⟩ := id ht
  obtain ⟨m, hm⟩ : ∃ m : Nat, m = data.size + k := ⟨_, rfl⟩
  have hlen : (data.data.toList ++ textR k).length = m := by rw [List.length_append, hsz, textR_length, hm]
  have HM := Lib.hid hm
  clear hm
  rw [hlen]
  by_cases hlt : k < K
  ·have y1 : (k : Int) < n := by have := HK.out; unfold textK at this; omega
   have y2 : (k : Int) < 60000 := by have := HK.out; unfold textK at this; omega
   have y3 : (m : Int) < 60000 := by have := HK.out; have := HM.out; unfold textK at *; omega
   obtain ⟨xb, hxb⟩ : ∃ xb, xb = UInt8.ofNat (k % 251) := ⟨_, rfl⟩
   obtain ⟨z, hz⟩ : ∃ z : Int, z = (xb.toNat : Int) := ⟨_, rfl⟩
   have q2 : (k : Int) % 251 = z := by rw [hz, hxb, UInt8.toNat_ofNat']; omega
   have hnew := heap_alloc_new wr (.cells #[.int .u8 z] 5)
   have hbn := below_one wr (.cells #[.int .u8 z] 5)
   have HA := Lib.hid (show ∀ (w1 : World), w1 = wr.alloc (.cells #[.int .u8 z] 5) → TailSl w1 w.heap.size (.slice (some ⟨g, 0, none⟩) m c) (data.data.toList ++ textR k) ∧ w1.cell? ((⟨wr.heap.size, 0, none⟩ : Addr).add 0) = some (.int .u8 (xb.toNat : Int)) ∧ w.heap.size ≤ w1.heap.size from fun w1 e => by
    subst e
    refine ⟨by rw [← hlen]; exact ht.below hbn, ?_, Nat.le_trans hb.size hbn.size⟩
    rw [Addr.add_lit, ← hz]
    unfold World.cell?
    simp only [hnew]
    rfl)
   have hl1 : (data.data.toList ++ textR k).length ≤ 1000000 := by omega
   have HL1 := Lib.hid (And.intro hl1 hbn)
   have HX := Lib.hid hxb
   clear ht hnew hbn hl1 hxb hz hlen hk0
   go_wp2_with (first
    | (at_builtin; refine wpList_app1 rfl (.tmp 23) (.tmp 27) rfl w.heap.size (.slice (some ⟨g, 0, none⟩) m c) (data.data.toList ++ textR k) xb rfl (HA.out _ rfl).1 ⟨wr.heap.size, 0, none⟩ rfl (HA.out _ rfl).2.1 (HA.out _ rfl).2.2 HL1.out.1 ?_; go_must (intro v' w2 ht2 hb2; refine Stop.of ?_)))
   refine Stop.on ?_
   obtain ⟨g2, c2, cur2, fz2, rfl, -⟩ := id ht2
   have HT2 := Lib.hid ht2
   clear ht2
   obtain ⟨m2, hm2⟩ : ∃ m2 : Nat, Hid ((data.data.toList ++ textR k ++ [xb]).length = m2) := ⟨_, Lib.hid rfl⟩
   rw [hm2.out] at HT2 ⊢
   go_wp2_with fail
   go_roundw
   case rel => exact ⟨k + 1, by omega, by go_num, by rw [textR_succ, ← List.append_assoc, ← HX.out]; exact HT2.out, hb.trans ((HL1.out.2.mono hb.size).trans hb2)⟩
   case measure => simp [intOf]; omega
  ·obtain rfl : k = K := by omega
   have hst := ht.isSl.strOf
   rw [hlen, ← HL.out] at hst
   have HB := Lib.hid hb
   obtain ⟨str, hstr⟩ : ∃ s, Hid (strOf (textL data n) = s) := ⟨_, Lib.hid rfl⟩
   rw [hstr.out] at hst
   clear ht hb hlen hk0 hlt
   by_cases y1 : (k : Int) < n
   ·have y2 : (k : Int) < 60000 ∨ ¬ (k : Int) < 60000 := by omega
    have y3 : ¬ (m : Int) < 60000 := by have := HK.out; have := HM.out; unfold textK at *; omega
    rcases y2 with y2 | y2
    all_goals
     go_wp2_with fail
     go_ret
     exact ⟨by rw [hstr.out]; rfl, HB.out⟩
   ·go_wp2_with fail
    go_ret
    exact ⟨by rw [hstr.out]; rfl, HB.out⟩
theorem TS0.full {w0 w : World} {v t N R dn u P : Nat} {kv kv0 : List Pr} {ch : Bool} (h : TS0 w0 v t N R dn u kv0 kv ch P w) : 2 + bsum kv ≤ N := by
 obtain ⟨S, tr, mp, σ, root, es, tb, root0, es0, tb0, hA, hB, h1, h2, h3, h4, h5, h6, h7, h8, h9, h10⟩ := h
 have hc := hA.live.own.count hA.tx.inv.ok hA.live.all
 have hle := countB_le σ.now σ.most
 rw [hc, List.length_append, bsum_ents hA.live.val, h7, h4] at hle
 omega
theorem bsum_mem {p : Pr} : ∀ {kv : List Pr}, p ∈ kv → bcost p.2 ≤ bsum kv
 | q :: kv, h => by
  show bcost p.2 ≤ bcost q.2 + bsum kv
  rcases List.mem_cons.1 h with rfl | h
  ·omega
  ·have := bsum_mem h; omega
theorem ins_mem (kv : List Pr) (key value : ByteArray) : (key, value) ∈ insP kv key value := by
 unfold insP
 split
 ·next h =>
  obtain ⟨hl, _⟩ := isAt_lt h
  exact List.mem_iff_getElem.2 ⟨posAt kv key, by simpa using hl, by simp⟩
 ·simp
theorem str_size (l : List UInt8) : (strOf l).size = l.length := by show l.toArray.size = _; simp
theorem vspoils_walk (kind on n : Int) (okey ovalue key : ByteArray) (w : World) (hn : 0 ≤ n ∧ n ≤ 65535) :
  Calls Tryz.prog 3 #[.string key, .int .u16 n, .agg #[.int .u8 kind, .string okey, .string ovalue, .int .i64 on]] w fun e w' => e = .returned (.bool true) ∧ Below w.heap.size w w' := by
 go_enter Tryz.func3, Tryz.ntmps3
 have hb0 := below_one w (.cells #[.int .u8 kind, .string okey, .string ovalue, .int .i64 on] 24)
 have HB := Lib.hid hb0
 clear hb0
 go_wp2_with (first
  | (go_at_call 10; go_must ((refine (fixed_any _).mono ?_); rintro e w1 ⟨rfl, hb1⟩; refine Stop.of ?_)))
 have hw1 : Below w.heap.size w w1 := HB.out.trans (hb1.mono HB.out.size)
 clear hb1 HB
 refine Stop.on ?_
 go_wp2_with (first
  | (go_at_call 12; go_must ((refine (dnew 170 w1).mono ?_); rintro e w2 ⟨d, S, rfl, hD, hb2, hS⟩; have HV := Lib.hid (VS0.make w1 w2 170 110 hb2 d S hD hS (by omega) (by omega)); clear hD hb2 hS))
  | (go_at_call 11; go_must ((refine HV.out.mono ?_); rintro e w3 ⟨v, rfl, hV3⟩; clear HV))
  | (go_at_call 13; go_must ((refine hV3.begin.mono ?_); rintro e w4 ⟨t, rfl, hT4⟩; clear hV3))
  | (go_at_call 14; go_must ((refine (hT4.put_ok ⟨#[107, 101, 112, 116]⟩ ⟨#[120]⟩ (by simp) ⟨by decide, by decide⟩ (by decide) 4 (by decide) (by decide)).mono ?_); rintro e w5 ⟨rfl, hT5⟩; rw [insP_nil] at hT5; clear hT4; have HC := Lib.hid (TS0.commit_ok hT5 (by omega) (by decide) (by decide)); clear hT5))
  | (go_at_call 15; go_must ((refine HC.out.mono ?_); rintro e w6 ⟨rfl, u, hV6⟩; clear HC))
  | (go_at_call 16; go_must ((refine hV6.used.mono ?_); rintro e w7 ⟨rfl, hV7⟩; refine Stop.of ?_)))
 refine Stop.on ?_
 clear hV6
 obtain ⟨m, hm⟩ : ∃ m : Int, m = 40000 + n % 9000 := ⟨_, rfl⟩
 have hm1 : 40000 ≤ m ∧ m < 49000 := by omega
 have q1 : IntKind.i64.wrap n = n := IntWalk.i64_in _ (by omega)
 have q2 : IntKind.i64.wrap (40000 + n % 9000) = m := by rw [IntWalk.i64_in _ (by omega), hm]
 obtain ⟨val, hval⟩ : ∃ s, Hid (strOf (textL ⟨#[]⟩ m) = s) := ⟨_, Lib.hid rfl⟩
 have hvs : val.size = m.toNat := by
  rw [← hval.out, str_size]
  unfold textL
  rw [List.length_append, textR_length]
  have e0 : (⟨#[]⟩ : ByteArray).size = 0 := rfl
  unfold textK
  rw [e0]
  show 0 + _ = _
  omega
 have HVS := Lib.hid (And.intro hvs hm1)
 clear hvs hm1 hm
 have HTX := Lib.hid (text_any ⟨#[]⟩ m)
 go_wp2_with (first
  | (go_at_call 13; go_must ((refine hV7.begin.mono ?_); rintro e w8 ⟨t2, rfl, hT8⟩; clear hV7))
  | (go_at_call 17; go_must ((refine (HTX.out w8 (by decide)).mono ?_); rintro e w9 ⟨rfl, hb9⟩; refine Stop.of ?_)))
 refine Stop.on ?_
 rw [hval.out]
 have hT9 := hT8.below hb9
 have hw9 : Below w.heap.size w w9 := hw1.trans (hT9.bel.mono hw1.size)
 clear hT8 hb9 HTX q1 q2
 have hbc : 79 ≤ bcost val ∧ bcost val ≤ 97 := by
  have := HVS.out
  unfold bcost nblk
  rw [if_neg (by omega)]
  omega
 obtain ⟨kv, hkv⟩ : ∃ kv : List Pr, kv = [(⟨#[107, 101, 112, 116]⟩, ⟨#[120]⟩)] := ⟨_, rfl⟩
 rw [← hkv] at hT9
 have hk1 : kv.length = 1 ∧ bsum kv = 0 ∧ lookP kv ⟨#[107, 101, 112, 116]⟩ = some ⟨#[120]⟩ := by subst hkv; exact ⟨rfl, rfl, lookP_one _ _⟩
 have HK := Lib.hid hk1
 have HBC := Lib.hid hbc
 clear hkv hk1 hbc
 have hks : ((key.size : Nat) : Int) ≤ 128 ∨ ¬ ((key.size : Nat) : Int) ≤ 128 := by omega
 by_cases hg : 1 ≤ key.size ∧ key.size ≤ 128
 ·have hP : Calls Tryz.prog 14 #[.pointer (some ⟨t2, 0, none⟩), .string key, .string val] w9 fun e w' => e = .returned (.int .i64 12) ∧ ES0 w1 v t2 60 109 1 u kv w' := by
   refine ((hT9.more (P' := 2 + u + 1000) (by omega)).put key val (by have := HK.out; omega) hg (by have := HVS.out; omega) (by have := HK.out; have := HBC.out; omega)).mono ?_
   rintro e w' (⟨_, h⟩ | ⟨rfl, _, h⟩)
   ·have h1 := h.full
    have h2 : bcost val ≤ bsum (insP kv key val) := bsum_mem (p := (key, val)) (ins_mem kv key val)
    have h3 := HBC.out
    omega
   ·exact ⟨rfl, h⟩
  have HP := Lib.hid hP
  have z1 : ¬ (128 : Int) < (key.size : Int) := by omega
  have z2 : key.toList.isEmpty = false := by
   cases hq : key.toList with
   | nil =>
    have : key.toList.length = key.size := by rw [toList_eq]; show key.data.toList.length = key.data.size; simp
    rw [hq] at this; simp at this; omega
   | cons _ _ => rfl
  clear hT9 hP hg hks
  go_wp2_with (first
   | (go_at_call 14; go_must ((refine HP.out.mono ?_); rintro e w10 ⟨rfl, hE10⟩; refine Stop.of ?_)))
  refine Stop.on ?_
  have HG := Lib.hid (vget_no _ ⟨#[107, 101, 112, 116]⟩ 12 w10 (hE10.usable _) (by decide))
  have HD := Lib.hid (vdelete_no _ ⟨#[107, 101, 112, 116]⟩ 12 w10 (hE10.usable _) (by decide))
  have HSC := Lib.hid (vscan_no _ ⟨#[]⟩ 1 12 w10 (hE10.usable _) (by decide))
  have HPU := Lib.hid (vput_no _ ⟨#[97]⟩ ⟨#[98]⟩ 12 w10 (hE10.usable _) (by decide))
  go_wp2_with (first
   | (go_at_call 18; go_must ((refine HG.out.mono ?_); rintro e w11 ⟨hw, rfl⟩; subst w11; clear HG))
   | (go_at_call 19; go_must ((refine HD.out.mono ?_); rintro e w11 ⟨hw, rfl⟩; subst w11))
   | (go_at_call 20; go_must ((refine HSC.out.mono ?_); rintro e w11 ⟨hw, rfl⟩; subst w11))
   | (go_at_call 14; go_must ((refine HPU.out.mono ?_); rintro e w11 ⟨hw, rfl⟩; subst w11))
   | (go_at_call 15; go_must ((refine hE10.commit.mono ?_); rintro e w12 ⟨rfl, hV12⟩; refine Stop.of ?_)))
  refine Stop.on ?_
  clear hE10 HD HSC HPU HP
  have HL := Lib.hid HK.out.2.2
  go_wp2_with (first
   | (go_at_call 16; go_must ((refine hV12.used.mono ?_); rintro e w13 ⟨rfl, hV13⟩; clear hV12))
   | (go_at_call 13; go_must ((refine hV13.begin.mono ?_); rintro e w14 ⟨t3, rfl, hT14⟩; clear hV13))
   | (go_at_call 18; go_must ((refine (hT14.get ⟨#[107, 101, 112, 116]⟩ (by have := HK.out; omega) ⟨by decide, by decide⟩).mono ?_); rw [HL.out]; rintro e w15 ⟨rfl, hT15⟩; clear hT14; have HDN := Lib.hid (hT15.done (by omega))))
   | (go_at_call 21; go_must ((refine HDN.out.mono ?_); rintro e w16 ⟨rfl, hw⟩; subst w16)))
  go_ret
  exact ⟨by simp, hw1.trans (hT15.bel.mono hw1.size)⟩
 ·have HP := Lib.hid (vput_no _ key val 1 w9 (hT9.no hg) (by decide))
  have HW := Lib.hid hw9
  rcases hks with z1 | z1
  ·have z2 : key.toList.isEmpty = true := by
    have h0 : key.size = 0 := by omega
    have : key.toList.length = key.size := by rw [toList_eq]; show key.data.toList.length = key.data.size; simp
    rw [h0] at this
    rw [List.eq_nil_of_length_eq_zero this]; rfl
   clear hT9 hg
   go_wp2_with (first
    | (go_at_call 14; go_must ((refine HP.out.mono ?_); rintro e w10 ⟨hw, rfl⟩; subst w10)))
   go_ret
   exact ⟨rfl, HW.out⟩
  ·have z3 : (128 : Int) < (key.size : Int) := by omega
   have z2 : key.toList.isEmpty = false := by
    cases hq : key.toList with
    | nil =>
     have : key.toList.length = key.size := by rw [toList_eq]; show key.data.toList.length = key.data.size; simp
     rw [hq] at this; simp at this; omega
    | cons _ _ => rfl
   clear hT9 hg
   go_wp2_with (first
    | (go_at_call 14; go_must ((refine HP.out.mono ?_); rintro e w10 ⟨hw, rfl⟩; subst w10)))
   go_ret
   exact ⟨rfl, HW.out⟩
end Go.Proofs.YtfgpefcphnpabaaGreat
