/- The closures that Put and Delete hand to edit. -/
import Derived.Test.YtbldcbakhpdigaaRepl
import Derived.Test.YtbldcbakhpdigaaRegion
import Derived.Test.YtbldcbakhpdigaaSlInsG
import Derived.Test.YtbldcbakhpdigaaSlDel
import Derived.Test.YtbldcbakhpdigaaHalves
namespace Go.Proofs.Ytbldcbakhpdigaa
open Go.RowKit

/-- a string variable that a closure holds -/
def BoxS (w : World) (b : Nat) (s : ByteArray) : Prop := w.heap[b]? = some (.cells #[.string s] 9 (0, 0))

def delP (ps : List Pr) (key : ByteArray) : List Pr := if isAt ps key then ps.take (posAt ps key) ++ ps.drop (posAt ps key + 1) else ps
def insP (ps : List Pr) (key value : ByteArray) : List Pr := if isAt ps key then ps.set (posAt ps key) (key, value) else ps.take (posAt ps key) ++ (key, value) :: ps.drop (posAt ps key)

theorem isAt_lt {ps : List Pr} {key : ByteArray} (h : isAt ps key = true) : ∃ h : posAt ps key < ps.length, ps[posAt ps key].1 = key := by
  unfold isAt at h
  split at h
  · rename_i p hp
    obtain ⟨h1, h2⟩ := List.getElem?_eq_some_iff.1 hp
    exact ⟨h1, by rw [h2]; exact of_decide_eq_true h⟩
  · cases h

theorem cells1 {w : World} {b : Nat} {s : ByteArray} (h : BoxS w b s) : w.cell? ⟨b, 0, none⟩ = some (.string s) ∧ b < w.heap.size := by
  unfold BoxS at h
  exact ⟨by simp [World.cell?, h], (Array.getElem?_eq_some_iff.1 h).1⟩

theorem OwnSl.form2 {w : World} {S : Nat → Prop} {B e k n : Nat} {v : Value} {xs : List Value} (h : OwnSl w S B e k v n xs) (hn : 0 < n) : ∃ g c, v = .slice (some ⟨g, 0, none⟩) n c ∧ n ≤ c ∧ c ≤ 9223372036854775807 ∧ B ≤ g ∧ g < w.heap.size := by
  obtain ⟨ao, c, rfl, h1, h2, _⟩ := h.isSl.form
  rcases h.1.2 with ⟨e, h0⟩ | ⟨g, cap, cur, e, hB, hg, _⟩
  · exact absurd h0 (by omega)
  · cases e; exact ⟨g, c, rfl, h1, h2, hB, (Array.getElem?_eq_some_iff.1 hg).1⟩

/-- the node's first field is set anew -/
theorem OwnNode.setPairs {w W : World} {S : Nat → Prop} {B b : Nat} {nd : Nd} {v0 v1 v2 v' : Value} {ps : List Pr} (hb : W.heap[b]? = some (.cells #[v0, v1, v2] 91 (0, 0))) (hS : ¬ S b) (hB : B ≤ b) (h1 : OwnSl W S B 9 1 v1 nd.keys.length (nd.keys.map .string)) (h2 : OwnSl W S B 3 1 v2 nd.kids.length (nd.kids.map (.int .i64)))
    (h0 : OwnSl W S B 49 2 v' ps.length (prCells ps)) (hk : Below B w W) : OwnNode (W.setCell ⟨b, 0, none⟩ v') S B b ⟨ps, nd.keys, nd.kids⟩ ∧ Below B w (W.setCell ⟨b, 0, none⟩ v') := by
  have hk5 : Keep (· = b) W (W.setCell ⟨b, 0, none⟩ v') := Keep.setCell (M := (· = b)) (p := ⟨b, 0, none⟩) (Keep.refl _ _) (.inr rfl) v'
  refine ⟨⟨hS, hB, v', v1, v2, ?_, h0.keep fun g hg hl hs => ⟨hk5.block g hl (fun e => h0.ne hb (by decide) (by rw [hg, e])), hs⟩, h1.keep fun g hg hl hs => ⟨hk5.block g hl (fun e => h1.ne hb (by decide) (by rw [hg, e])), hs⟩, h2.keep fun g hg hl hs => ⟨hk5.block g hl (fun e => h2.ne hb (by decide) (by rw [hg, e])), hs⟩⟩, hk.setCell (by simpa using hB) v'⟩
  simp [World.setCell, Array.getElem?_modify, hb]

/-- a pair's value is set anew -/
theorem prCells_set (ps : List Pr) (v : ByteArray) : ∀ (i : Nat) (h : i < ps.length), (prCells ps).set (i * 2 + 1) (.string v) = prCells (ps.set i (ps[i].1, v)) := by
  induction ps with
  | nil => intro i h; simp at h
  | cons p ps ih =>
    intro i h
    cases i with
    | zero => rfl
    | succ i =>
      have := ih i (by simpa using h)
      simp only [prCells_cons, List.set_cons_succ, List.getElem_cons_succ, Nat.succ_mul]
      rw [this]
theorem OwnNode.setValue {w W : World} {S : Nat → Prop} {B b g c : Nat} {nd : Nd} {v1 v2 : Value} {value : ByteArray} (i : Nat) (hi : i < nd.pairs.length) (hb : W.heap[b]? = some (.cells #[.slice (some ⟨g, 0, none⟩) nd.pairs.length c, v1, v2] 91 (0, 0))) (hS : ¬ S b) (hB : B ≤ b) (h1 : OwnSl W S B 9 1 v1 nd.keys.length (nd.keys.map .string)) (h2 : OwnSl W S B 3 1 v2 nd.kids.length (nd.kids.map (.int .i64)))
    (h0 : OwnSl W S B 49 2 (.slice (some ⟨g, 0, none⟩) nd.pairs.length c) nd.pairs.length (prCells nd.pairs)) (hk : Below B w W) : OwnNode (W.setCell ⟨g, i * 2 + 1, none⟩ (.string value)) S B b ⟨nd.pairs.set i (nd.pairs[i].1, value), nd.keys, nd.kids⟩ ∧ Below B w (W.setCell ⟨g, i * 2 + 1, none⟩ (.string value)) := by
  obtain ⟨cur, hr, hl, hx, hBg, hSg, hc, hc2⟩ := h0.row
  have hk5 : Keep (· = g) W (W.setCell ⟨g, i * 2 + 1, none⟩ (.string value)) := Keep.setCell (M := (· = g)) (p := ⟨g, i * 2 + 1, none⟩) (Keep.refl _ _) (.inr rfl) _
  have hr' : Row (W.setCell ⟨g, i * 2 + 1, none⟩ (.string value)) g 49 (cur.set (i * 2 + 1) (.string value)) := by
    unfold Row at hr ⊢
    simp [World.setCell, Array.getElem?_modify, hr]
  have hgb : b ≠ g := fun e => by subst e; exact h0.ne hb (by decide) rfl
  refine ⟨⟨hS, hB, _, v1, v2, (hk5.block b (Array.getElem?_eq_some_iff.1 hb).1 hgb).trans hb, ?_, h1.keep fun g' hg hl hs => ⟨hk5.block g' hl (fun e => OwnSl.ne2 h1 h0 (by decide) _ hg (by rw [e]; rfl)), hs⟩, h2.keep fun g' hg hl hs => ⟨hk5.block g' hl (fun e => OwnSl.ne2 h2 h0 (by decide) _ hg (by rw [e]; rfl)), hs⟩⟩, hk.setCell (by simpa using hBg) _⟩
  have := hr'.own (S := S) (B := B) (k := 2) (cap := c) nd.pairs.length (by simpa using hl) hBg hSg hc hc2
  rw [show (cur.set (i * 2 + 1) (.string value)).take (nd.pairs.length * 2) = prCells (nd.pairs.set i (nd.pairs[i].1, value)) from by rw [← prCells_set _ _ i hi, ← hx, ← List.take_set]] at this
  simpa using this

set_option maxRecDepth 100000 in
set_option maxHeartbeats 2000000 in
theorem delete11_any (kb nb B : Nat) (key : ByteArray) (nd : Nd) (S : Nat → Prop) (w : World) (hk : BoxS w kb key) (hn : OwnNode w S B nb nd) (hr : RisingP nd.pairs) (hl : nd.pairs.length ≤ 1000000) :
    Calls Try.prog 45 #[.pointer (some ⟨nb, 0, none⟩), .pointer (some ⟨kb, 0, none⟩)] w fun e w' => e = .returned (.tuple #[]) ∧ OwnNode w' S B nb ⟨delP nd.pairs key, nd.keys, nd.kids⟩ ∧ Below B w w' := by
  have hN := hn
  obtain ⟨hS, hB, v0, v1, v2, hb, h0, h1, h2⟩ := hn
  obtain ⟨c0, c1, c2, _, _, _, hlt⟩ := cells3 hb
  obtain ⟨k0, kl⟩ := cells1 hk
  have hnB : B ≤ w.heap.size := Nat.le_trans hB (Nat.le_of_lt hlt)
  cases hat : isAt nd.pairs key with
  | false =>
    have hd : delP nd.pairs key = nd.pairs := by unfold delP; rw [hat]; rfl
    rw [hd]
    go_enter Try.func45, Try.ntmps45
    go_wp2_with (first
      | (go_at_call 40; go_must ((refine (find_any nb nd key _ S hN.isNode hr hl).mono ?_); rw [hat]; rintro e w1 ⟨rfl, hb1⟩)))
    go_end0
    exact ⟨rfl, hN.step (Step.of_below hb1), hb1.mono hnB⟩
  | true =>
    obtain ⟨hp, hkey⟩ := isAt_lt hat
    have hd : delP nd.pairs key = nd.pairs.take (posAt nd.pairs key) ++ nd.pairs.drop (posAt nd.pairs key + 1) := by unfold delP; rw [hat]; rfl
    generalize hP : posAt nd.pairs key = P at hp hkey hd
    obtain ⟨g, c, rfl, hc1, hc2, hBg, hgl⟩ := h0.form2 (by omega)
    have hpw : IntKind.i64.wrap ((P : Int) + 1) = (P : Int) + 1 := IntWalk.i64_in _ (by omega)
    go_enter Try.func45, Try.ntmps45
    have HP := Lib.hid hP; clear hP
    go_wp2_with (first
      | (go_at_call 40; go_must ((refine (find_any nb nd key _ S hN.isNode hr hl).mono ?_); rw [hat, HP.out]; rintro e w1 ⟨rfl, hb1⟩; have c0' := (hb1.cell (p := ⟨nb, 0, none⟩) hlt).trans c0; have hlt' := Nat.lt_of_lt_of_le hlt hb1.size; clear c0 c1 c2))
      | (go_at_call 46; go_must ((refine (delPair_any g c nd.pairs.length P (prCells nd.pairs) _ S B (h0.step (Step.of_below hb1)) (one_prs _) hp hl).mono ?_); rintro e w2 ⟨c', rfl, hown, hk2⟩; refine Stop.of ?_)))
    have hgb : nb ≠ g := fun e => by subst e; exact h0.ne hb (by decide) rfl
    have hbel2 : Below B w w2 := (hb1.mono hnB).trans (hk2.toBelow (Nat.le_trans hnB hb1.size) (fun i hi e => absurd hBg (by rw [← e]; exact Nat.not_le.2 hi)))
    have hb2 : w2.heap[nb]? = some (.cells #[.slice (some ⟨g, 0, none⟩) nd.pairs.length c, v1, v2] 91 (0, 0)) := (hk2.block nb hlt' hgb).trans ((hb1.block nb hlt).trans hb)
    have h12 := (h1.step (Step.of_below hb1)).keep (w' := w2) (S' := S) (fun g' hg hl hs => ⟨hk2.block g' hl (fun e => OwnSl.ne2 h1 h0 (by decide) _ hg (by rw [e]; rfl)), hs⟩)
    have h22 := (h2.step (Step.of_below hb1)).keep (w' := w2) (S' := S) (fun g' hg hl hs => ⟨hk2.block g' hl (fun e => OwnSl.ne2 h2 h0 (by decide) _ hg (by rw [e]; rfl)), hs⟩)
    obtain ⟨e0, e1, e2, _, _, _, hlt2⟩ := cells3 hb2
    have hlen : (nd.pairs.take P ++ nd.pairs.drop (P + 1)).length = nd.pairs.length - 1 := by rw [List.length_append, List.length_take, List.length_drop]; omega
    have hown' : OwnSl w2 S B 49 2 (.slice (some ⟨g, 0, none⟩) (nd.pairs.length - 1) c') (nd.pairs.take P ++ nd.pairs.drop (P + 1)).length (prCells (nd.pairs.take P ++ nd.pairs.drop (P + 1))) := by
      rw [hlen, prCells_append, prCells_take, prCells_drop]; exact hown
    have HH := Lib.hid hlen; clear hlen
    have hH1 := Lib.hid hown'; clear hown' hown
    have HD := Lib.hid hd; clear hd
    refine Stop.on ?_
    go_wp2_with fail
    go_end0
    rw [HD.out]
    have q := OwnNode.setPairs hb2 hS hB h12 h22 hH1.out hbel2
    exact ⟨rfl, q.1, q.2⟩
end Go.Proofs.Ytbldcbakhpdigaa
