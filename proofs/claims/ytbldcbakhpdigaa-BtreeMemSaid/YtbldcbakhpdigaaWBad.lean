/- The store in memory: what Write refuses. -/
import Derived.Test.YtbldcbakhpdigaaBMem
import Derived.Lib.ConvBytes
import Derived.Laws.IdiomStrings
import Derived.Laws.AppendOwn
namespace Go.Proofs.Ytbldcbakhpdigaa
open Go.RowKit

set_option maxRecDepth 100000 in
theorem write_not (mp : Nat) (σ : MSt) (S : Nat → Prop) (w : World) (b : Int) (v : Value) (h : Inv σ S mp w) (hb : (Lit.int .i64 b).wf = true) (hh : Maps.has σ.D (kI b) = false) :
    Calls Try.prog 14 #[.pointer (some ⟨mp, 0, none⟩), .int .i64 b, v] w fun e w' => e = .returned (.int .i64 1) ∧ w' = w := by
  go_enter Try.func14, Try.ntmps14
  go_wp2_with (first
    | (go_at_call 30; go_must ((refine (check_any mp σ S w b h hb).mono ?_); rintro e w1 ⟨rfl, hw⟩; subst w1; rw [hh])))
  go_ret
  exact ⟨rfl, rfl⟩
set_option maxRecDepth 100000 in
theorem write_long (mp : Nat) (σ : MSt) (S : Nat → Prop) (w : World) (b : Int) (ao : Option Addr) (n c : Nat) (h : Inv σ S mp w) (hb : (Lit.int .i64 b).wf = true) (hh : Maps.has σ.D (kI b) = true) (hn : 512 < n) :
    Calls Try.prog 14 #[.pointer (some ⟨mp, 0, none⟩), .int .i64 b, .slice ao n c] w fun e w' => e = .returned (.int .i64 1) ∧ w' = w := by
  have hn2 : (512 : Int) < (n : Int) := by omega
  go_enter Try.func14, Try.ntmps14
  go_wp2_with (first
    | (go_at_call 30; go_must ((refine (check_any mp σ S w b h hb).mono ?_); rintro e w1 ⟨rfl, hw⟩; subst w1; rw [hh])))
  go_ret
  exact ⟨rfl, rfl⟩

/-- one cell of an owned row is set -/
theorem OwnSl.set1 {w : World} {S : Nat → Prop} {B e g n c : Nat} {xs : List Value} (h : OwnSl w S B e 1 (.slice (some ⟨g, 0, none⟩) n c) n xs) (i : Nat) (hi : i < n) (u : Value) :
    OwnSl (w.setCell ⟨g, i, none⟩ u) S B e 1 (.slice (some ⟨g, 0, none⟩) n c) n (xs.set i u) ∧ Keep (· = g) w (w.setCell ⟨g, i, none⟩ u) ∧ w.frozen? ⟨g, i, none⟩ = false ∧ (∃ u0, w.cell? ⟨g, i, none⟩ = some u0) ∧ g < w.heap.size ∧ ¬ S g := by
  obtain ⟨cur, hr, hl, hx, hBg, hSg, hc, hc2⟩ := h.row
  have hk5 : Keep (· = g) w (w.setCell ⟨g, i, none⟩ u) := Keep.setCell (M := (· = g)) (p := ⟨g, i, none⟩) (Keep.refl _ _) (.inr rfl) _
  have hr' : Row (w.setCell ⟨g, i, none⟩ u) g e (cur.set i u) := by
    unfold Row at hr ⊢
    simp [World.setCell, Array.getElem?_modify, hr]
  refine ⟨?_, hk5, hr.frozen i, ⟨cur[i]'(by omega), (hr.cell i).trans (List.getElem?_eq_getElem (by omega))⟩, hr.lt, hSg⟩
  have := hr'.own (S := S) (B := B) (k := 1) (cap := c) n (by simpa using hl) hBg hSg hc hc2
  rw [show (cur.set i u).take (n * 1) = xs.set i u from by rw [← hx, ← List.take_set]] at this
  exact this

theorem MR.drew {n : Nat} {w0 : World} {σ : MSt} {S : Nat → Prop} {mp : Nat} {v7 v8 : Value} {tk : List Bool} {da : List ByteArray} {wr : World} (h : MR n w0 σ S mp v7 v8 tk da wr) : MR n w0 σ S mp v7 v8 tk da wr.drew :=
  ⟨h.inv.below ((Below.refl _ _).drew), h.bel.drew, h.hS, h.t7.drew, h.t8.drew, h.len, h.le, h.n4, h.cnt, h.zero, h.most, h.held, h.has, h.mem⟩

theorem MR.free {n : Nat} {w0 : World} {σ : MSt} {S : Nat → Prop} {mp g c7 : Nat} {v8 : Value} {tk : List Bool} {da : List ByteArray} {wr w5 : World} (h : MR n w0 σ S mp (.slice (some ⟨g, 0, none⟩) tk.length c7) v8 tk da wr) (b : Int) (hth : thereB tk b = true) (hI : Inv (σ.gone b) S mp w5) (hs : Step S S wr w5) :
    MR n w0 (σ.free b) S mp (.slice (some ⟨g, 0, none⟩) tk.length c7) v8 (tk.set b.toNat false) da (w5.setCell ⟨g, b.toNat, none⟩ (.bool false)) := by
  have hb := thereB_lt hth
  have hbn : b.toNat < tk.length := by omega
  have hg : σ.gone b = σ.free b := by simp [MSt.gone, held_none h.held]
  rw [hg] at hI
  obtain ⟨q1, q2, q3, q4, q5, q6⟩ := (h.t7.step hs).set1 b.toNat hbn (.bool false)
  have t8 := (h.t8.step hs).keep (w' := w5.setCell ⟨g, b.toNat, none⟩ (.bool false)) (S' := S) (fun x hx hl hS => ⟨q2.block x hl (fun e => OwnSl.ne2 h.t8 h.t7 (by decide) _ hx (by rw [e]; rfl)), hS⟩)
  have hBg : w0.heap.size ≤ g := h.t7.lo g rfl
  obtain ⟨hb1, e1⟩ := thereB_in (tk := tk) hb.1 hb.2
  rw [hth] at e1
  have hsz := Maps.size_del (k := kI b) (h.inv.own.tidy keyed_int)
  rw [h.has b, hth, if_pos rfl] at hsz
  have hct := count_set tk b.toNat hbn false
  rw [← e1] at hct
  simp at hct
  refine ⟨hI.keepM q2 (fun x hx e => q6 (by rw [← e]; exact hx)), ?_, h.hS, ?_, t8, by simp [h.len], by simp [h.le], h.n4, ?_, ?_, h.most, h.held, fun x => ?_, fun x hx => ?_⟩
  · exact h.bel.trans ((hs.1.toBelow h.bel.size (fun x hx hS => absurd (h.hS x hS) (Nat.not_le.2 hx))).trans (q2.toBelow (Nat.le_trans h.bel.size hs.1.size) (fun x hx e => absurd hBg (by rw [← e]; exact Nat.not_le.2 hx))))
  · simpa using q1
  · show Maps.size (σ.D.del (kI b)) = _
    have := h.cnt
    omega
  · have hz := h.zero
    cases tk with
    | nil => simp
    | cons a t =>
      have h0 : b.toNat ≠ 0 := by omega
      obtain ⟨j, hj⟩ := Nat.exists_eq_succ_of_ne_zero h0
      rw [hj]
      simpa using hz
  · show Maps.has (σ.D.del (kI b)) (kI x) = _
    rw [thereB_set b false hb.1 hb.2]
    by_cases hx : x = b
    · subst hx; rw [if_pos rfl]; exact Maps.has_del_same
    · rw [if_neg hx, Maps.has_del_other (fun e => hx (by injection e))]; exact h.has x
  · rw [thereB_set b false hb.1 hb.2] at hx
    by_cases hxb : x = b
    · rw [if_pos hxb] at hx; cases hx
    · rw [if_neg hxb] at hx; exact h.mem x hx

theorem MR.below {n : Nat} {w0 : World} {σ : MSt} {S : Nat → Prop} {mp : Nat} {v7 v8 : Value} {tk : List Bool} {da : List ByteArray} {wr w5 : World} (h : MR n w0 σ S mp v7 v8 tk da wr) (hb : Below wr.heap.size wr w5) : MR n w0 σ S mp v7 v8 tk da w5 :=
  ⟨h.inv.below hb, h.bel.trans (hb.mono h.bel.size), h.hS, h.t7.below hb, h.t8.below hb, h.len, h.le, h.n4, h.cnt, h.zero, h.most, h.held, h.has, h.mem⟩

theorem MR.datum {n : Nat} {w0 : World} {σ : MSt} {S : Nat → Prop} {mp : Nat} {ao8 : Option Addr} {n8 c8 : Nat} {v7 : Value} {tk : List Bool} {da : List ByteArray} {wr : World} (h : MR n w0 σ S mp v7 (.slice ao8 n8 c8) tk da wr) (i : Nat) (hi : i < da.length) :
    ∃ g, ao8 = some ⟨g, 0, none⟩ ∧ g < wr.heap.size ∧ wr.cell? ⟨g, i, none⟩ = some (.string (da.getD i ⟨#[]⟩)) := by
  obtain ⟨g, c, e1, _, _, _, hl⟩ := h.t8.form2 (by omega)
  cases e1
  obtain ⟨b', o', e2, hc⟩ := h.t8.isSl.at1 rfl i (.string da[i]) (by simp [hi])
  cases e2
  refine ⟨g, rfl, hl, ?_⟩
  rw [List.getD_eq_getElem?_getD, List.getElem?_eq_getElem hi]
  simpa using hc

/-- 'string(v)' of an owned row of bytes -/
theorem str_back {w : World} {S : Nat → Prop} {v : Value} {n : Nat} {s : ByteArray} (h : IsSl w S 1 v n (bCells s.data.toList)) (hn : n = s.size) (h0 : 0 < n) : (convert 34 9 v).run Try.prog w = .ok (.string s) w := by
  obtain ⟨ao, c, rfl, _, _, hs, _⟩ := h.form
  obtain ⟨ao', c', e, h1, h2, h3, h4, h5, h6⟩ := h
  cases e
  obtain ⟨b, o, e⟩ := hs.resolve_left (by omega)
  subst e
  have hl : s.data.toList.length = n := by rw [length_bytes]; exact hn.symm
  have := Go.run_convert_bytes_back (P := Try.prog) w 34 9 5 ⟨b, o, none⟩ c s.data.toList Try.underlying34 Try.underlying5 Try.underlying9 (fun j hj => by
    obtain ⟨b', o', e', hc⟩ := h6 j (.int .u8 (s.data.toList[j].toNat : Int)) (by rw [bCells, List.getElem?_map, List.getElem?_eq_getElem hj]; rfl)
    cases e'
    rw [Addr.add_lit]; exact hc)
  rw [hl] at this
  simpa using this

/-- '[]byte(s)' -/
theorem bytes_of (w : World) (s : ByteArray) (hs : s.size ≤ maxLen) : ∃ c w', (convert 9 34 (.string s)).run Try.prog w = .ok (.slice (some ⟨w.heap.size, 0, none⟩) s.size c) w' ∧ Below w.heap.size w w' ∧ IsBytes w' NoS (.slice (some ⟨w.heap.size, 0, none⟩) s.data.toList.length c) s.data.toList := by
  refine ⟨_, _, Go.run_bytes_of_string (P := Try.prog) w 9 34 5 s Try.underlying9 Try.underlying34 Try.underlying5, (Below.refl _ _).drew.alloc (Nat.le_refl _) _, ?_⟩
  refine ⟨_, _, rfl, by rw [length_bytes]; exact grownCap_ge _ _ _ _, grownCap_le_maxLen _ _ _ _ hs, by simp [bCells], by simp, fun ad had => ?_, fun j u hu => ⟨_, _, rfl, ?_⟩⟩
  · cases had
    exact ⟨rfl, by simp, id⟩
  · have hh := heap_alloc_new w.drew (.cells (bytesRow s (grownCap w s.size 0 5)) 5 ((bytesRow s (grownCap w s.size 0 5)).size, (bytesRow s (grownCap w s.size 0 5)).size + 1))
    have hj := (List.getElem?_eq_some_iff.1 hu).1
    simp only [bCells, List.length_map, Array.length_toList] at hj
    rw [World.cell?]
    show (match (w.drew.alloc _).heap[w.drew.heap.size]? with | some (.cells c _ _) => c[0 + j]? | _ => none) = _
    rw [hh, Nat.zero_add]
    show (bytesRow s _)[j]? = some u
    unfold bytesRow
    rw [Array.getElem?_append_left (by simpa using hj)]
    rw [← hu]
    simp [bCells]

theorem makeN (w : World) (z : Int) (n : Nat) (hz : z = n) (hn : n ≤ 512) : (Instr.makeSlice 34 (.int .i64 z) (.int .i64 z)).run Try.prog w = .ok (.slice (some ⟨w.heap.size, 0, none⟩) n n) (w.alloc (.cells (bCells (List.replicate n 0)).toArray 5)) := by
  subst hz
  obtain ⟨i, hi, hz, hsize, hby⟩ := info_parts info_u8
  have := run_make (P := Try.prog) (w := w) 34 5 i _ Try.underlying34 hi hz .i64 .i64 n n (by omega) (by omega) (by rw [hby]; omega) (by omega)
  rw [this, hsize]
  rw [show Int.toNat (n : Int) * 1 = n from by omega, madeU8, Int.toNat_natCast]

def padS (key : ByteArray) (n : Nat) : ByteArray := key ++ ⟨(List.replicate n 0).toArray⟩
theorem padS_list (key : ByteArray) (n : Nat) : (padS key n).data.toList = key.data.toList ++ List.replicate n 0 := by
  unfold padS
  simp

theorem MR.write {n : Nat} {w0 : World} {σ : MSt} {S S' : Nat → Prop} {mp g c8 gg : Nat} {v7 : Value} {tk : List Bool} {da : List ByteArray} {wr w5 w6 : World} (h : MR n w0 σ S mp v7 (.slice (some ⟨g, 0, none⟩) da.length c8) tk da wr) (b : Int) (hth : thereB tk b = true) (key : ByteArray) (hI : Inv (σ.put b gg (key.data.toList ++ List.replicate (512 - key.data.toList.length) 0)) S' mp w5) (hs : Step S S' wr w5) (hb6 : Below w5.heap.size w5 w6) :
    MR n w0 (σ.put b gg (key.data.toList ++ List.replicate (512 - key.data.toList.length) 0)) S' mp v7 (.slice (some ⟨g, 0, none⟩) da.length c8) tk (da.set b.toNat (padS key (512 - key.size))) (w6.setCell ⟨g, b.toNat, none⟩ (.string (padS key (512 - key.size)))) := by
  have hb := thereB_lt hth
  have hbn : b.toNat < da.length := by have := h.len; omega
  obtain ⟨q1, q2, q3, q4, q5, q6⟩ := ((h.t8.step hs).below hb6).set1 b.toNat hbn (.string (padS key (512 - key.size)))
  have t7 := ((h.t7.step hs).below hb6).keep (w' := w6.setCell ⟨g, b.toNat, none⟩ (.string (padS key (512 - key.size)))) (S' := S') (fun x hx hl hS => ⟨q2.block x hl (fun e => OwnSl.ne2 h.t7 h.t8 (by decide) _ hx (by rw [e]; rfl)), hS⟩)
  have hBg : w0.heap.size ≤ g := h.t8.lo g rfl
  have hhas := h.has b
  rw [hth] at hhas
  have hsz : Maps.size (σ.D.put (kI b) (.lit (.int .i64 gg))) = Maps.size σ.D := by rw [Maps.size_put (h.inv.own.tidy keyed_int), if_pos hhas]
  refine ⟨(hI.below hb6).keepM q2 (fun x hx e => q6 (by rw [← e]; exact hx)), ?_, fun x hx => (hs.2 x hx).elim (h.hS x) (fun y => Nat.le_trans h.bel.size y), t7, ?_, by simp [h.len], h.le, h.n4, hsz.trans h.cnt, h.zero, h.most, h.held, fun x => ?_, fun x hx => ?_⟩
  · exact h.bel.trans ((hs.1.toBelow h.bel.size (fun x hx hS => absurd (h.hS x hS) (Nat.not_le.2 hx))).trans ((hb6.mono (Nat.le_trans h.bel.size hs.1.size)).trans (q2.toBelow (Nat.le_trans h.bel.size (Nat.le_trans hs.1.size hb6.size)) (fun x hx e => absurd hBg (by rw [← e]; exact Nat.not_le.2 hx)))))
  · simpa using q1
  · show Maps.has (σ.D.put (kI b) _) (kI x) = _
    by_cases hx : x = b
    · subst hx; rw [hth]; exact Maps.has_put_same (h.inv.own.tidy keyed_int).isMap (isKey_int _) _
    · rw [Maps.has_put_other (fun e => hx (by injection e))]; exact h.has x
  · by_cases hxb : x = b
    · subst hxb
      simp only [MSt.put, if_true]
      rw [List.getD_eq_getElem?_getD, List.getElem?_set_self hbn]
      simp only [Option.getD_some]
      rw [padS_list, length_bytes]
    · simp only [MSt.put, if_neg hxb]
      have hx1 := thereB_lt hx
      rw [h.mem x hx, List.getD_eq_getElem?_getD, List.getD_eq_getElem?_getD, List.getElem?_set_ne (by omega)]

theorem str_zeros (W : World) (g m : Nat) (h : W.heap[g]? = some (.cells (bCells (List.replicate m 0)).toArray 5 (0, 0))) : (convert 34 9 (.slice (some ⟨g, 0, none⟩) m m)).run Try.prog W = .ok (.string ⟨(List.replicate m 0).toArray⟩) W := by
  have hl : (List.replicate m (0 : UInt8)).length = m := List.length_replicate
  have hr : Row W g 5 (bCells (List.replicate m 0)) := h
  have := Go.run_convert_bytes_back (P := Try.prog) W 34 9 5 ⟨g, 0, none⟩ m (List.replicate m 0) Try.underlying34 Try.underlying5 Try.underlying9 (fun j hj => by
    rw [Addr.add_lit, Nat.zero_add, hr.cell j]
    rw [hl] at hj
    simp [bCells, hj])
  rwa [hl] at this
end Go.Proofs.Ytbldcbakhpdigaa
