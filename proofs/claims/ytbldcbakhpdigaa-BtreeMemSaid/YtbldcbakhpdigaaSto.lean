/- The store in memory. -/
import Derived.Test.YtbldcbakhpdigaaClone
import Derived.Maps.OwnSet
namespace Go.Proofs.Ytbldcbakhpdigaa
open Go.RowKit

structure MSt where
  most : Nat
  bb : Nat
  hb : Nat
  D : DataW Unit
  H : DataW Unit
  mem : Int → List UInt8

/-- how a block's bytes read: by the number of their own block -/
def rB (v : Value) : Option (DataW Unit × List MemPlace) :=
  match v with
  | .slice (some ⟨g, o, sp⟩) n c => if o = 0 ∧ sp = none ∧ n = 512 ∧ c = 512 then some (.lit (.int .i64 g), []) else none
  | .slice none n c => if n = 0 ∧ c = 0 then some (.lit (.int .i64 (-1)), []) else none
  | _ => none

theorem rB_mk (g : Nat) : rB (.slice (some ⟨g, 0, none⟩) 512 512) = some (.lit (.int .i64 g), []) := by simp [rB]
theorem rB_nil : rB (.slice none 0 0) = some (.lit (.int .i64 (-1)), []) := by simp [rB]
theorem rB_inv {v : Value} {g : Nat} {ps : List MemPlace} (h : rB v = some (.lit (.int .i64 g), ps)) : v = .slice (some ⟨g, 0, none⟩) 512 512 := by
  unfold rB at h
  split at h
  · rename_i g' o sp n c
    split at h
    · rename_i hc
      obtain ⟨rfl, rfl, rfl, rfl⟩ := hc
      simp only [Option.some.injEq, Prod.mk.injEq, DataW.lit.injEq, Lit.int.injEq, true_and] at h
      have : g' = g := by omega
      rw [this]
    · cases h
  · split at h
    · simp only [Option.some.injEq, Prod.mk.injEq, DataW.lit.injEq, Lit.int.injEq, true_and] at h
      omega
    · cases h
  · cases h

abbrev kI (b : Int) : Lit := .int .i64 b

structure Inv (σ : MSt) (S : Nat → Prop) (mp : Nat) (w : World) : Prop where
  sub : ∀ g, S g → g < w.heap.size
  smp : S mp
  sbb : S σ.bb
  shb : S σ.hb
  ne : σ.bb ≠ σ.hb
  blk : w.heap[mp]? = some (.cells #[.int .i64 σ.most, .map (some σ.bb), .map (some σ.hb)] 73 (0, 0))
  own : w.ownsMap Try.prog 3 rB σ.bb 5000 σ.D
  oh : w.ownsMap Try.prog 3 (plainElem Try.prog 3) σ.hb 5000 σ.H
  szD : Maps.size σ.D ≤ σ.most
  cap : σ.most ≤ 4096
  hold : ∀ b, Maps.has σ.D (kI b) = false → σ.H.atKey (kI b) (.lit (.int .i64 0)) = .lit (.int .i64 0)
  rows : ∀ b z, Maps.has σ.D (kI b) = true → ∃ g : Nat, σ.D.atKey (kI b) z = .lit (.int .i64 g) ∧ S g ∧ (σ.mem b).length = 512 ∧ w.heap[g]? = some (.cells (bCells (σ.mem b)).toArray 5 (0, 0))

theorem tight {k : TypeId} {R : Value → Option (DataW Unit × List MemPlace)} {w : World} {b n m : Nat} {D : DataW Unit} (h : w.ownsMap Try.prog k R b n D) (hm : Maps.size D ≤ m) : w.ownsMap Try.prog k R b m D := by
  obtain ⟨es, clock, hb, F, hs, rfl⟩ := h
  refine ⟨es, clock, hb, F, ?_, rfl⟩
  rw [Maps.size_eq, length_sorted] at hm
  simpa using hm

theorem keyed_int : Maps.Keyed Try.prog 3 := Maps.int_keyed Try.underlying3
theorem key_int (b : Int) (hb : (Lit.int .i64 b).wf = true) : keyOf Try.prog 3 (.int .i64 b) = some (kI b) := by
  exact Maps.keyOf_int_mk Try.underlying3 hb

set_option maxRecDepth 100000 in
theorem check_any (mp : Nat) (σ : MSt) (S : Nat → Prop) (w : World) (b : Int) (h : Inv σ S mp w) (hb : (Lit.int .i64 b).wf = true) :
    Calls Try.prog 30 #[.pointer (some ⟨mp, 0, none⟩), .int .i64 b] w fun e w' => e = .returned (.int .i64 (if Maps.has σ.D (kI b) then 0 else 1)) ∧ w' = w := by
  have hm := h.blk
  have hs1 := h.sbb
  have hs2 := h.shb
  have hbh := h.ne
  have hD := h.own
  have hH := h.oh
  have c0 : w.cell? ⟨mp, 1, none⟩ = some (.map (some σ.bb)) := by simp [World.cell?, hm]
  have hlt : mp < w.heap.size := h.sub _ h.smp
  have hz : (zeroValue 34).run Try.prog w = .ok (.slice none 0 0) w := by kernel_rfl
  go_enter Try.func30, Try.ntmps30
  go_wp2_with (at_lookup; go_must (refine wpList_lookup_own_ok _ rfl _ _ 70 rfl 3 34 keyed_int Try.underlying70 rB hz (.lit (.int .i64 (-1))) [] rB_nil σ.bb 5000 σ.D rfl hD _ _ rfl (key_int b hb) ?_; intro v ps hv))
  all_goals
    go_ret
    simp_all

theorem Inv.row {σ : MSt} {S : Nat → Prop} {mp : Nat} {w : World} (h : Inv σ S mp w) {b : Int} (hh : Maps.has σ.D (kI b) = true) (z : DataW Unit) :
    ∃ g : Nat, σ.D.atKey (kI b) z = .lit (.int .i64 g) ∧ IsSl w NoS 1 (.slice (some ⟨g, 0, none⟩) 512 512) 512 (bCells (σ.mem b)) ∧ (σ.mem b).length = 512 := by
  obtain ⟨g, h1, h2, h3, h4⟩ := h.rows b z hh
  refine ⟨g, h1, ?_, h3⟩
  have hr : Row w g 5 (bCells (σ.mem b)) := h4
  have hl : (bCells (σ.mem b)).length = 512 := by simp [bCells, h3]
  have := hr.isSl (S := NoS) (k := 1) (off := 0) 512 512 (by omega) id (Nat.le_refl _) (by simp [maxLen])
  rwa [List.drop_zero, List.take_of_length_le (by omega)] at this

set_option maxRecDepth 100000 in
theorem read_has (mp : Nat) (σ : MSt) (S : Nat → Prop) (w : World) (b : Int) (h : Inv σ S mp w) (hb : (Lit.int .i64 b).wf = true) (hh : Maps.has σ.D (kI b) = true) :
    Calls Try.prog 15 #[.pointer (some ⟨mp, 0, none⟩), .int .i64 b] w fun e w' => ∃ v, e = .returned (.tuple #[v, .int .i64 0]) ∧ OwnSl w' S w.heap.size 5 1 v 512 (bCells (σ.mem b)) ∧ Below w.heap.size w w' := by
  have hm := h.blk
  have hs1 := h.sbb
  have hs2 := h.shb
  have hbh := h.ne
  have hD := h.own
  have hH := h.oh
  have c0 : w.cell? ⟨mp, 1, none⟩ = some (.map (some σ.bb)) := by simp [World.cell?, hm]
  have hlt : mp < w.heap.size := h.sub _ h.smp
  have hz : (zeroValue 34).run Try.prog w = .ok (.slice none 0 0) w := by kernel_rfl
  obtain ⟨g, hat, hsl, hlen⟩ := h.row hh (.lit (.int .i64 (-1)))
  have hsub := h.sub
  obtain ⟨v, ps, hrun, hv⟩ := hD.lookup keyed_int Try.underlying70 hz rB_nil (key_int b hb)
  rw [hat] at hv
  obtain rfl := rB_inv hv
  clear hv hat
  go_enter Try.func15, Try.ntmps15
  go_wp2_with (first
    | (go_at_call 30; go_must ((refine (check_any mp σ S w b h hb).mono ?_); rintro e w1 ⟨rfl, rfl⟩; rw [hh]))
    | (go_at_call 31; go_must ((refine (cloneBytes_any _ 512 _ _ NoS (fun _ h => h.elim) hsl (one_bytes _) (by omega)).mono ?_); rintro e w1 ⟨v', rfl, hown, hbl⟩)))
  go_ret2
  exact ⟨_, rfl, ⟨hown.1, fun g' hg' hs => absurd (hsub g' hs) (Nat.not_lt.2 (hown.1.lt g' hg').1)⟩, hbl⟩

set_option maxRecDepth 100000 in
theorem read_not (mp : Nat) (σ : MSt) (S : Nat → Prop) (w : World) (b : Int) (h : Inv σ S mp w) (hb : (Lit.int .i64 b).wf = true) (hh : Maps.has σ.D (kI b) = false) :
    Calls Try.prog 15 #[.pointer (some ⟨mp, 0, none⟩), .int .i64 b] w fun e w' => e = .returned (.tuple #[.slice none 0 0, .int .i64 1]) ∧ w' = w := by
  go_enter Try.func15, Try.ntmps15
  go_wp2_with (first
    | (go_at_call 30; go_must ((refine (check_any mp σ S w b h hb).mono ?_); rintro e w1 ⟨rfl, rfl⟩; rw [hh])))
  go_ret2
  exact ⟨rfl, rfl⟩

/-- the state behind a block is given back -/
def MSt.free (σ : MSt) (b : Int) : MSt := { σ with D := σ.D.del (kI b) }

set_option maxRecDepth 100000 in
theorem free_not (mp : Nat) (σ : MSt) (S : Nat → Prop) (w : World) (b : Int) (h : Inv σ S mp w) (hb : (Lit.int .i64 b).wf = true) (hh : Maps.has σ.D (kI b) = false) :
    Calls Try.prog 13 #[.pointer (some ⟨mp, 0, none⟩), .int .i64 b] w fun e w' => e = .returned (.int .i64 1) ∧ w' = w := by
  go_enter Try.func13, Try.ntmps13
  go_wp2_with (first
    | (go_at_call 30; go_must ((refine (check_any mp σ S w b h hb).mono ?_); rintro e w1 ⟨rfl, rfl⟩; rw [hh])))
  go_ret
  exact ⟨rfl, rfl⟩

set_option maxRecDepth 100000 in
theorem free_has (mp : Nat) (σ : MSt) (S : Nat → Prop) (w : World) (b : Int) (h : Inv σ S mp w) (hb : (Lit.int .i64 b).wf = true) (hh : Maps.has σ.D (kI b) = true) (hheld : σ.H.atKey (kI b) (.lit (.int .i64 0)) = .lit (.int .i64 0)) :
    Calls Try.prog 13 #[.pointer (some ⟨mp, 0, none⟩), .int .i64 b] w fun e w' => e = .returned (.int .i64 0) ∧ Inv (σ.free b) S mp w' ∧ Step S S w w' := by
  have hm := h.blk
  have hs1 := h.sbb
  have hs2 := h.shb
  have hbh := h.ne
  have hD := h.own
  have hH := h.oh
  have c0 : w.cell? ⟨mp, 1, none⟩ = some (.map (some σ.bb)) := by simp [World.cell?, hm]
  have c2 : w.cell? ⟨mp, 2, none⟩ = some (.map (some σ.hb)) := by simp [World.cell?, hm]
  have hlt : mp < w.heap.size := h.sub _ h.smp
  have hz : (zeroValue 3).run Try.prog w = .ok (.int .i64 0) w := by kernel_rfl
  obtain ⟨c, hrun, hat, _⟩ := hH.lookup_int keyed_int Try.underlying71 Try.underlying3 hz (key_int b hb)
  rw [hheld] at hat
  cases hat
  go_enter Try.func13, Try.ntmps13
  go_wp2_with (first
    | (go_at_call 30; go_must ((refine (check_any mp σ S w b h hb).mono ?_); rintro e w1 ⟨rfl, hw⟩; subst w1; rw [hh]))
    | (refine wpList_delete_own _ rfl _ _ 70 3 rfl 34 keyed_int Try.underlying70 rB σ.bb 5000 σ.D rfl hD _ _ rfl (key_int b hb) ?_; intro w1 hD1 hturn))
  go_ret
  have hg := hturn.grown
  have hne : ∀ {g : Nat} {cs : Array Value} {t : TypeId} {fr : Nat × Nat}, w.heap[g]? = some (.cells cs t fr) → some g ≠ some σ.bb := fun hc e => by
    cases e
    obtain ⟨es, cl, hbm, _⟩ := hD
    rw [hbm] at hc; cases hc
  have hmp := (hg.block mp hlt (hne hm)).trans hm
  have hblk : ∀ g, g < w.heap.size → ¬ S g → w1.heap[g]? = w.heap[g]? := fun g hl hs => hg.block g hl (fun e => by cases e; exact hs hs1)
  refine ⟨rfl, ⟨fun g hg' => Nat.lt_of_lt_of_le (h.sub g hg') hg.size, h.smp, hs1, hs2, hbh, hmp, hD1, hH.kept hg (fun e => hbh (Option.some.inj e).symm), ?_, h.cap, ?_, ?_⟩, ?_⟩
  · have := Maps.size_del (k := kI b) (hD.tidy keyed_int)
    have := h.szD
    show Maps.size (σ.D.del (kI b)) ≤ σ.most
    omega
  · intro b' hb2
    by_cases hbb : kI b' = kI b
    · rw [hbb]; exact hheld
    · exact h.hold b' ((Maps.has_del_other hbb).symm.trans hb2)
  · intro b' z hb2
    by_cases hbb : kI b' = kI b
    · rw [hbb] at hb2
      rw [show (σ.free b).D = σ.D.del (kI b) from rfl, Maps.has_del_same] at hb2
      cases hb2
    · have hb3 : Maps.has σ.D (kI b') = true := (Maps.has_del_other hbb).symm.trans hb2
      obtain ⟨g, r1, r2, r3, r4⟩ := h.rows b' z hb3
      exact ⟨g, (Maps.atKey_del_other hbb z).trans r1, r2, r3, (hg.block g (h.sub g r2) (hne r4)).trans r4⟩
  · obtain ⟨q1, q2, q3, q4, q5⟩ := hg
    exact ⟨⟨by first | exact q1 | exact q2 | exact q3, by first | exact q2 | exact q1 | exact q3, by first | exact q3 | exact q2 | exact q1, q4, fun g hl hs => hblk g hl hs⟩, fun g h => .inl h⟩

/-- what Free leaves: a held block stays -/
def MSt.held (σ : MSt) (b : Int) : Bool := match σ.H.atKey (kI b) (.lit (.int .i64 0)) with | .lit (.int .i64 c) => c != 0 | _ => false
def MSt.gone (σ : MSt) (b : Int) : MSt := if σ.held b then σ else σ.free b

set_option maxRecDepth 100000 in
theorem free_any (mp : Nat) (σ : MSt) (S : Nat → Prop) (w : World) (b : Int) (h : Inv σ S mp w) (hb : (Lit.int .i64 b).wf = true) (hh : Maps.has σ.D (kI b) = true) :
    Calls Try.prog 13 #[.pointer (some ⟨mp, 0, none⟩), .int .i64 b] w fun e w' => e = .returned (.int .i64 0) ∧ Inv (σ.gone b) S mp w' ∧ Step S S w w' := by
  have hz : (zeroValue 3).run Try.prog w = .ok (.int .i64 0) w := by kernel_rfl
  obtain ⟨c, hrun, hat, _⟩ := h.oh.lookup_int keyed_int Try.underlying71 Try.underlying3 hz (key_int b hb)
  by_cases hc : c = 0
  · subst hc
    have := free_has mp σ S w b h hb hh hat
    have hg : σ.gone b = σ.free b := by simp [MSt.gone, MSt.held, hat]
    rwa [← hg] at this
  · have hg : σ.gone b = σ := by simp [MSt.gone, MSt.held, hat, hc]
    rw [hg]
    have hm := h.blk
    have c2 : w.cell? ⟨mp, 2, none⟩ = some (.map (some σ.hb)) := by simp [World.cell?, hm]
    have hlt : mp < w.heap.size := h.sub _ h.smp
    go_enter Try.func13, Try.ntmps13
    go_wp2_with (first
      | (go_at_call 30; go_must ((refine (check_any mp σ S w b h hb).mono ?_); rintro e w1 ⟨rfl, hw⟩; subst w1; rw [hh])))
    go_ret
    exact ⟨rfl, h, Step.refl S w⟩

/-- a block of the store has got new bytes -/
def MSt.put (σ : MSt) (b : Int) (g : Nat) (l : List UInt8) : MSt := { σ with D := σ.D.put (kI b) (.lit (.int .i64 g)), mem := fun x => if x = b then l else σ.mem x }

theorem isKey_int (b : Int) : WideAt.IsKeyLit (kI b) := trivial

theorem Inv.put {σ : MSt} {S : Nat → Prop} {mp : Nat} {w w1 w2 : World} (h : Inv σ S mp w) (b : Int) (g : Nat) (l : List UInt8) (hk : Keep NoS w w1) (hr : Row w1 g 5 (bCells l)) (hl : l.length = 512) (hg : w.heap.size ≤ g)
    (hsz : Maps.has σ.D (kI b) = true ∨ Maps.size σ.D < σ.most) (ho : w2.ownsMap Try.prog 3 rB σ.bb 5001 (σ.D.put (kI b) (.lit (.int .i64 g)))) (hgr : w1.grownBy w2 (some σ.bb)) :
    Inv (σ.put b g l) (fun x => S x ∨ x = g) mp w2 ∧ Step S (fun x => S x ∨ x = g) w w2 := by
  have hD := h.own
  have hT := hD.tidy keyed_int
  have hsize : Maps.size (σ.D.put (kI b) (.lit (.int .i64 g))) ≤ σ.most := by
    rw [Maps.size_put hT]
    have := h.szD
    split <;> rename_i hh
    · exact this
    · rcases hsz with h1 | h1
      · exact absurd h1 hh
      · omega
  have hcap := h.cap
  have hne : ∀ {w : World} {g : Nat} {cs : Array Value} {t : TypeId} {fr : Nat × Nat} {n : Nat} {D : DataW Unit}, w.ownsMap Try.prog 3 rB σ.bb n D → w.heap[g]? = some (.cells cs t fr) → some g ≠ some σ.bb := fun hD hc e => by
    cases e
    obtain ⟨es, cl, hbm, _⟩ := hD
    rw [hbm] at hc; cases hc
  have hblk : ∀ x, x < w.heap.size → some x ≠ some σ.bb → w2.heap[x]? = w.heap[x]? := fun x hx hn =>
    (hgr.block x (Nat.lt_of_lt_of_le hx hk.size) hn).trans (hk.block x hx id)
  have hD1 : w1.ownsMap Try.prog 3 rB σ.bb 5000 σ.D := by
    obtain ⟨es, cl, hbm, r⟩ := hD
    exact ⟨es, cl, (hk.block _ (h.sub _ h.sbb) id).trans hbm, r⟩
  have hrow2 : Row w2 g 5 (bCells l) := (hgr.block g hr.lt (hne hD1 hr)).trans hr
  refine ⟨⟨?_, .inl h.smp, .inl h.sbb, .inl h.shb, h.ne, ?_, ?_, ?_, hsize, h.cap, ?_, ?_⟩, ?_, ?_⟩
  · rintro x (hx | rfl)
    · exact Nat.lt_of_lt_of_le (h.sub x hx) (Nat.le_trans hk.size hgr.size)
    · exact hrow2.lt
  · exact (hblk mp (h.sub _ h.smp) (hne hD h.blk)).trans h.blk
  · exact tight ho (Nat.le_trans hsize (by omega))
  · obtain ⟨es, cl, hbm, r⟩ := h.oh
    exact ⟨es, cl, (hblk _ (h.sub _ h.shb) (fun e => h.ne (Option.some.inj e).symm)).trans hbm, r⟩
  · intro b' hb2
    by_cases hbb : b' = b
    · subst hbb
      exact absurd hb2 (by rw [show (σ.put b' g l).D = σ.D.put (kI b') (.lit (.int .i64 g)) from rfl, Maps.has_put_same hT.isMap (isKey_int _)]; simp)
    · exact h.hold b' ((Maps.has_put_other (fun e => by cases e; exact hbb rfl) _).symm.trans hb2)
  · intro b' z hb2
    by_cases hbb : b' = b
    · subst hbb
      exact ⟨g, Maps.atKey_put_same hT.isMap (isKey_int _) _ _, .inr rfl, by simp [MSt.put, hl], by simpa [MSt.put, Row] using hrow2⟩
    · have hkk : kI b' ≠ kI b := fun e => by cases e; exact hbb rfl
      have hb3 : Maps.has σ.D (kI b') = true := (Maps.has_put_other hkk _).symm.trans hb2
      obtain ⟨g', r1, r2, r3, r4⟩ := h.rows b' z hb3
      refine ⟨g', (Maps.atKey_put_other hkk _ _).trans r1, .inl r2, ?_, ?_⟩
      · simpa [MSt.put, hbb] using r3
      · simpa [MSt.put, hbb] using (hblk g' (h.sub g' r2) (hne hD r4)).trans r4
  · obtain ⟨q1, q2, q3, q4, q5⟩ := hgr
    exact ⟨by first | exact q1.trans hk.os | exact q2.trans hk.os | exact q3.trans hk.os, by first | exact q2.trans hk.tape | exact q1.trans hk.tape | exact q3.trans hk.tape, by first | exact q3.trans hk.output | exact q2.trans hk.output | exact q1.trans hk.output, Nat.le_trans hk.size q4, fun x hx hs => hblk x hx (fun e => by cases e; exact hs h.sbb)⟩
  · rintro x (hx | rfl)
    · exact .inl hx
    · exact .inr hg
end Go.Proofs.Ytbldcbakhpdigaa
