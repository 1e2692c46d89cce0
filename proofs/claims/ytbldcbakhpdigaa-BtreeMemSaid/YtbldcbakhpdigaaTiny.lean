/- A tree of at most one leaf: Put, Delete. -/
import Derived.Test.YtbldcbakhpdigaaBad
namespace Go.Proofs.Ytbldcbakhpdigaa
open Go.RowKit

/-- the store's state bears a tree of at most one leaf, and nothing else; nothing is held -/
structure Tiny (σ : MSt) (root : Int) (ps : List Pr) : Prop where
  nil : ps = [] → root = 0 ∧ Maps.size σ.D = 0
  one : ps ≠ [] → Maps.size σ.D = 1 ∧ Blk σ root ⟨ps, [], []⟩
  held : σ.H = .map []

theorem held_none {σ : MSt} (h : σ.H = .map []) (b : Int) : σ.held b = false := by
  simp [MSt.held, h, DataW.atKey]

theorem Tiny.look {σ : MSt} {root : Int} {ps : List Pr} (h : Tiny σ root ps) (hr : RisingP ps) (key : ByteArray) : Look σ key 0 root (lookP ps key) := by
  by_cases hp : ps = []
  · obtain ⟨rfl, _⟩ := h.nil hp
    subst hp
    exact .nil
  · exact .leaf (h.one hp).2 rfl hr
theorem Tiny.walk {σ : MSt} {root : Int} {ps : List Pr} (h : Tiny σ root ps) (hp : ps ≠ []) (hr : RisingP ps) (key : ByteArray) : WalkL σ key 0 root (ps.drop (posAt ps key)) := .leaf (h.one hp).2 rfl hr

/-- what spread makes of a leaf that fits -/
theorem Spr.fits {nd : Nd} {l : ByteArray} {zs : List (ByteArray × Nd)} (h : Spr nd l zs) (hs : nd.size ≤ 512) (hne : nd.pairs ≠ []) : zs = [(leastOf nd l, nd)] := by
  cases h with
  | none h1 h2 => exact absurd h2 hne
  | one _ _ => rfl
  | leaf _ _ _ h2 => omega
  | inner _ _ _ h2 => omega
theorem Spr.nothing {l : ByteArray} {zs : List (ByteArray × Nd)} (h : Spr ⟨[], [], []⟩ l zs) : zs = [] := by
  cases h with
  | none h1 h2 => rfl
  | one h _ => exact absurd h (by simp)
  | leaf i hi => simp at hi
  | inner _ _ h => exact absurd rfl h

theorem tiny_eg {σ : MSt} {root : Int} {ps : List Pr} (hT : Tiny σ root ps) (t mp : Nat) (S : Nat → Prop) (key : ByteArray) (g : Nat) (cb : Array Value) (F : List Pr → List Pr) (bs : List (Nat × ByteArray)) (hent : ∀ args w, (callFunc g args).run Try.prog w = .ok (.enter g args) w) (hf : EditC g cb F bs)
    (W : World) (h : Inv σ S mp W) (ht : TreeAt W t mp root 0) (hst : ¬ S t) (hbx : Boxes W S bs) (hr : RisingP ps) (ok : Nd.Ok ⟨F ps, [], []⟩) (hs : Nd.size ⟨F ps, [], []⟩ ≤ 512) (hm : (F ps).length + 1 ≤ σ.most) :
    EG t mp root key g cb S (fun σ' b => Tiny σ' b (F ps) ∧ σ'.most = σ.most) W := by
  have fin : ∀ (σ0 : MSt) (least : ByteArray) (e : Ending) (w1 : World), Maps.size σ0.D = 0 → σ0.H = .map [] → σ0.most = σ.most → SprPost mp σ0 S ⟨F ps, [], []⟩ least W e w1 →
      ∃ v S1, e = .returned v ∧ Step S S1 W w1 ∧ Calls Try.prog 37 #[.pointer (some ⟨t, 0, none⟩), v] w1 fun e2 w2 => ∃ b σ' S', e2 = .returned (.int .i64 b) ∧ Inv σ' S' mp w2 ∧ Step S1 S' w1 w2 ∧ Tiny σ' b (F ps) ∧ σ'.most = σ.most := by
    rintro σ0 least e w1 h0 hH0 hm0 ⟨v, qs, zs, σ', S', rfl, p2, p3, p4, p5, p6⟩
    refine ⟨v, S', rfl, p6, ?_⟩
    have ht1 := ht.step hst p6
    by_cases hp : F ps = []
    · rw [hp] at p3
      obtain rfl := p3.nothing
      cases qs with
      | cons _ _ => exact absurd p4 id
      | nil =>
        obtain rfl : σ' = σ0 := p4
        refine (grow_nil t v S' w1 p2.isSl).mono ?_
        rintro e2 w2 ⟨rfl, rfl⟩
        exact ⟨0, σ', S', rfl, p5, Step.refl _ _, ⟨fun _ => ⟨rfl, h0⟩, fun x => absurd hp x, hH0⟩, hm0⟩
    · obtain rfl := p3.fits hs hp
      cases qs with
      | nil => exact absurd p4 id
      | cons q qs =>
        cases qs with
        | cons _ _ => obtain ⟨_, _, _, x⟩ := p4; exact absurd x id
        | nil =>
          obtain ⟨b, k⟩ := q
          obtain ⟨τ, _, hw, rfl⟩ := p4
          refine (grow_leaf t mp root 0 σ' v b k ⟨F ps, [], []⟩ S' w1 p5 ht1.1 ht1.2 p2.isSl hw.blk rfl).mono ?_
          rintro e2 w2 ⟨rfl, hb⟩
          exact ⟨b, σ', S', rfl, p5.below hb, Step.of_below hb, ⟨fun x => absurd x hp, fun _ => ⟨by rw [hw.size, h0], hw.blk⟩, hw.held.trans hH0⟩, hw.most.trans hm0⟩
  by_cases hp : ps = []
  · obtain ⟨rfl, hsz⟩ := hT.nil hp
    subst hp
    refine (edit_zero t mp 0 0 0 σ S key ⟨#[]⟩ g cb F bs hent hf W h ht hst hbx ok (by rw [hsz]; unfold Nd.room; simp; omega)).mono ?_
    intro e w1 hpost
    exact fin σ key e w1 hsz hT.held rfl hpost
  · obtain ⟨hsz, hblk⟩ := hT.one hp
    have hgone : σ.gone root = σ.free root := by simp [MSt.gone, held_none hT.held]
    have hsz0 : Maps.size (σ.free root).D = 0 := by
      have := Maps.size_del (k := kI root) (h.own.tidy keyed_int)
      rw [hblk.has, if_pos rfl, hsz] at this
      show Maps.size (σ.D.del (kI root)) = 0
      omega
    refine (edit_leaf t mp root 0 root 0 σ S key ⟨#[]⟩ ⟨ps, [], []⟩ g cb F bs hent hf W h ht hst hbx hblk rfl (by omega) hr ok (by rw [hgone, hsz0]; unfold Nd.room; show _ ≤ σ.most; simp; omega)).mono ?_
    intro e w1 hpost
    rw [hgone] at hpost
    exact fin (σ.free root) ⟨#[]⟩ e w1 hsz0 hT.held rfl hpost

theorem put_editC (kb vb : Nat) (key value : ByteArray) : EditC 39 #[.pointer (some ⟨kb, 0, none⟩), .pointer (some ⟨vb, 0, none⟩)] (fun ps => insP ps key value) [(kb, key), (vb, value)] := by
  intro nb B nd S w hsub hbx hn hr hl
  exact put11_any kb vb nb B key value nd S w hsub (hbx (kb, key) (by simp)).1 (hbx (vb, value) (by simp)).1 (hbx (kb, key) (by simp)).2 (hbx (vb, value) (by simp)).2 hn hr hl
theorem delete_editC (kb : Nat) (key : ByteArray) : EditC 45 #[.pointer (some ⟨kb, 0, none⟩)] (fun ps => delP ps key) [(kb, key)] := by
  intro nb B nd S w hsub hbx hn hr hl
  exact delete11_any kb nb B key nd S w (hbx (kb, key) (by simp)).1 hn hr (by omega)

theorem put_tiny (t mp : Nat) (root : Int) (σ : MSt) (S : Nat → Prop) (ps : List Pr) (key value : ByteArray) (w : World) (h : Inv σ S mp w) (ht : TreeAt w t mp root 0) (hst : ¬ S t) (hT : Tiny σ root ps) (hr : RisingP ps) (hg : GoodKV key value) (ok : Nd.Ok ⟨insP ps key value, [], []⟩) (hs : Nd.size ⟨insP ps key value, [], []⟩ ≤ 512) (hm : (insP ps key value).length + 1 ≤ σ.most) :
    Calls Try.prog 20 #[.pointer (some ⟨t, 0, none⟩), .string key, .string value] w fun e w' => e = .returned (.int .i64 0) ∧ ChgPost t mp S (fun σ' b => Tiny σ' b (insP ps key value) ∧ σ'.most = σ.most) w w' := by
  refine put_via t mp root S _ key value w h.sub ht hst hg.1.1 hg.1.2 hg.2 fun W kb vb hbW hbx => ?_
  exact tiny_eg hT t mp S key _ _ (fun ps => insP ps key value) [(kb, key), (vb, value)] (fun _ _ => by kernel_rfl) (put_editC kb vb key value) W (h.below hbW) ((hbW.block t (Array.getElem?_eq_some_iff.1 ht).1).trans ht) hst hbx hr ok hs hm

theorem delete_tiny (t mp : Nat) (root : Int) (σ : MSt) (S : Nat → Prop) (ps : List Pr) (key x : ByteArray) (w : World) (h : Inv σ S mp w) (ht : TreeAt w t mp root 0) (hst : ¬ S t) (hT : Tiny σ root ps) (hr : RisingP ps) (hg : 1 ≤ key.size ∧ key.size ≤ 128) (hx : lookP ps key = some x) (ok : Nd.Ok ⟨delP ps key, [], []⟩) (hs : Nd.size ⟨delP ps key, [], []⟩ ≤ 512) (hm : (delP ps key).length + 1 ≤ σ.most) :
    Calls Try.prog 23 #[.pointer (some ⟨t, 0, none⟩), .string key] w fun e w' => e = .returned (.tuple #[.bool true, .int .i64 0]) ∧ ChgPost t mp S (fun σ' b => Tiny σ' b (delP ps key) ∧ σ'.most = σ.most) w w' := by
  refine delete_via t mp root σ S _ key x w h ht hst hg.1 hg.2 0 (by omega) (by rw [← hx]; exact hT.look hr key) fun W kb hbW hbx => ?_
  exact tiny_eg hT t mp S key _ _ (fun ps => delP ps key) [(kb, key)] (fun _ _ => by kernel_rfl) (delete_editC kb key) W (h.below hbW) ((hbW.block t (Array.getElem?_eq_some_iff.1 ht).1).trans ht) hst hbx hr ok hs hm
end Go.Proofs.Ytbldcbakhpdigaa
