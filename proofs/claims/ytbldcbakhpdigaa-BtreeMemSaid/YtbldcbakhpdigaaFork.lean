/- A region that draws its order in which two effects may come in either order: the walk goes both ways. No program in sight. -/
import Derived.Test.YtbldcbakhpdigaaRegion
namespace Go.Proofs.Ytbldcbakhpdigaa
open Go.RowKit

section
variable {P : Program} {ops : Array Oper} {Q : Exit → Act → World → Prop} {md : Region.Mode} {S : World → Prop}

/-- the order up to the fork is a good one -/
def ordOkK (md : Region.Mode) (ops : Array Oper) (q : Nat → Bool) (chk : Array Bool → Bool) : List Nat → Array Bool → Bool
  | [], listed => chk listed
  | i :: rest, listed =>
    (if q i then (Region.ready md ops listed).contains i && Region.free md ops listed i
     else (Region.ready md ops listed == [i]) && !waitsAll md ops i) && ordOkK md ops q chk rest (listed.setIfInBounds i true)

/-- the walk up to the fork -/
def wpOrdK (P : Program) (md : Region.Mode) (ops : Array Oper) (Q : Exit → Act → World → Prop) (S : World → Prop) (q : Nat → Bool) (fin : Act → World → Prop) : List Nat → Act → World → Prop
  | [], a, w => fin a w
  | i :: rest, a, w =>
    if q i then ∃ o v, ops[i]? = some o ∧ (∀ c a w, Q (.panic c) (a.put o.dst v) w → Q (.panic c) a w) ∧ YieldsIf P ops S o v a ∧ wpOrdK P md ops Q S q fin rest (a.put o.dst v) w
    else wpOp P ops Q i (fun a' w' => S w' ∧ wpOrdK P md ops Q S q fin rest a' w') a w

theorem wpAnyG_of_ordK (hs : Region.noSelect ops = true) {q : Nat → Bool} {chk : Array Bool → Bool} {fin : Act → World → Prop} {m : Nat}
    (hfin : ∀ (fuel : Nat) (listed : Array Bool) (a : Act) (w : World), Shutd md ops listed → chk listed = true → m ≤ fuel → S w → fin a w → wpAnyG P md ops Q S fuel listed a w) :
    ∀ (order : List Nat) (fuel : Nat) (listed : Array Bool) (a : Act) (w : World), Shutd md ops listed → ordOkK md ops q chk order listed = true → order.length + m ≤ fuel → S w → wpOrdK P md ops Q S q fin order a w → wpAnyG P md ops Q S fuel listed a w
  | [], fuel, listed, a, w, hsh, hok, hf, hS, h => hfin fuel listed a w hsh hok (by simpa using hf) hS h
  | i :: rest, 0, _, _, _, _, _, hf, _, _ => absurd hf (by simp)
  | i :: rest, fuel + 1, listed, a, w, hsh, hok, hf, hS, h => by
    simp only [ordOkK, Bool.and_eq_true] at hok
    obtain ⟨hi, hrest⟩ := hok
    have hf' : rest.length + m ≤ fuel := by simp only [List.length_cons] at hf; omega
    by_cases hq : q i = true
    · simp only [hq, if_true, Bool.and_eq_true] at hi
      simp only [wpOrdK, hq, if_true] at h
      obtain ⟨o, v, ho, hQ, hy, h⟩ := h
      exact wpAnyG_first ho (Region.noSelect_spec hs) hQ fuel listed a w hsh (Region.free_spec ho hi.2) (by simpa using hi.1) hy hS
        (wpAnyG_of_ordK hs hfin rest fuel _ _ _ (hsh.set (by simpa using hi.1)) hrest hf' hS h)
    · rw [if_neg hq, Bool.and_eq_true] at hi
      simp only [wpOrdK] at h
      rw [if_neg hq] at h
      have hr : Region.ready md ops listed = [i] := by simpa using hi.1
      refine ⟨fun h0 => (by rw [hr] at h0; cases h0), fun j hj => ?_⟩
      rw [hr] at hj
      obtain rfl : j = i := by simpa using hj
      exact wpOp_mono (fun a' w' h3 => ⟨.inr h3.1, wpAnyG_of_ordK hs hfin rest fuel _ _ _ (hsh.set (by rw [hr]; exact List.mem_singleton.2 rfl)) hrest hf' h3.1 h3.2⟩) h

/-- behind the fork: i first, or j first -/
def forkOk (md : Region.Mode) (ops : Array Oper) (q : Nat → Bool) (i j : Nat) (ri rj : List Nat) (listed : Array Bool) : Bool :=
  (Region.ready md ops listed == [i, j]) && (ordOk md ops q ri (listed.setIfInBounds i true) && ordOk md ops q rj (listed.setIfInBounds j true))

def wpFork (P : Program) (md : Region.Mode) (ops : Array Oper) (Q : Exit → Act → World → Prop) (S : World → Prop) (q : Nat → Bool) (i j : Nat) (ri rj : List Nat) (a : Act) (w : World) : Prop :=
  wpOp P ops Q i (fun a' w' => S w' ∧ wpOrd P md ops Q S q ri a' w') a w ∧ wpOp P ops Q j (fun a' w' => S w' ∧ wpOrd P md ops Q S q rj a' w') a w

theorem wpAnyG_of_fork (hs : Region.noSelect ops = true) {q : Nat → Bool} {i j : Nat} {ri rj : List Nat} (fuel : Nat) (listed : Array Bool) (a : Act) (w : World) (hsh : Shutd md ops listed) (hok : forkOk md ops q i j ri rj listed = true)
    (hf : max ri.length rj.length + 1 ≤ fuel) (h : wpFork P md ops Q S q i j ri rj a w) : wpAnyG P md ops Q S fuel listed a w := by
  simp only [forkOk, Bool.and_eq_true, beq_iff_eq] at hok
  obtain ⟨hr, hi, hj⟩ := hok
  cases fuel with
  | zero => omega
  | succ fuel =>
    refine ⟨fun h0 => (by rw [hr] at h0; cases h0), fun k hk => ?_⟩
    have hk' := hk
    rw [hr] at hk'
    rcases List.mem_cons.1 hk' with rfl | hk'
    · exact wpOp_mono (fun a' w' h3 => ⟨.inr h3.1, wpAnyG_of_ord hs ri fuel _ _ _ (hsh.set hk) hi (by omega) (.inr h3.1) h3.2⟩) h.1
    · obtain rfl : k = j := by simpa using hk'
      exact wpOp_mono (fun a' w' h3 => ⟨.inr h3.1, wpAnyG_of_ord hs rj fuel _ _ _ (hsh.set hk) hj (by omega) (.inr h3.1) h3.2⟩) h.2

/-- the beginning -/
theorem wp_region_fork {id : Nat} {a : Act} {w : World} (S : World → Prop) (q : Nat → Bool) (order : List Nat) (i j : Nat) (ri rj : List Nat) (hm : P.follows .mixedOrders = true)
    (hok : (Region.noSelect ops && decide (order.length + (max ri.length rj.length + 1) ≤ ops.size) && ordOkK .any ops q (forkOk .any ops q i j ri rj) order (Array.replicate ops.size false)) = true)
    (hS : S w.drew) (h : wpOrdK P .any ops Q S q (wpFork P .any ops Q S q i j ri rj) order a w.drew) : (Code.region id ops true).wp P Q a w := by
  simp only [Bool.and_eq_true, decide_eq_true_eq] at hok
  exact wp_region_any hm (wpAny_of_G _ _ _ _ (wpAnyG_of_ordK hok.1.1 (fun fuel listed a w hsh hok2 hf _ hfin => wpAnyG_of_fork hok.1.1 fuel listed a w hsh hok2 hf hfin) order _ _ _ _ Shutd.replicate hok.2 hok.1.2 hS h))

theorem ordK_nil {q : Nat → Bool} {fin : Act → World → Prop} {a : Act} {w : World} (h : fin a w) : wpOrdK P md ops Q S q fin [] a w := h
theorem ordK_q {q : Nat → Bool} {fin : Act → World → Prop} {i : Nat} {rest : List Nat} {a : Act} {w : World} {o : Oper} {v : Value} (hq : q i = true) (hi' : ops.toList[i]? = some o) (hQ : ∀ c a w, Q (.panic c) (a.put o.dst v) w → Q (.panic c) a w)
    (hw : Region.wanted o (yielded ops a.tmps) = true) (hy : ∀ W, S W → (execOp a.eval o).run P W = .ok (.value v) W) (h : wpOrdK P md ops Q S q fin rest (a.put o.dst v) w) : wpOrdK P md ops Q S q fin (i :: rest) a w := by
  have hi : ops[i]? = some o := by rw [← Array.getElem?_toList]; exact hi'
  simp only [wpOrdK, hq, if_true]; exact ⟨o, v, hi, hQ, .inl ⟨hw, hy⟩, h⟩
theorem ordK_e {q : Nat → Bool} {fin : Act → World → Prop} {i : Nat} {rest : List Nat} {a : Act} {w : World} {o : Oper} (hq : q i = false) (hi' : ops.toList[i]? = some o) (hw : Region.wanted o (yielded ops a.tmps) = true)
    (h : ∀ K : Act → World → Prop, Shut (∀ a w, S w → wpOrdK P md ops Q S q fin rest a w → K a w) → o.wp P a w K Q) : wpOrdK P md ops Q S q fin (i :: rest) a w := by
  have hi : ops[i]? = some o := by rw [← Array.getElem?_toList]; exact hi'
  simp only [wpOrdK, hq, wpOp, hi, hw, if_true]
  exact .inl (h _ (fun a w hS hW => ⟨hS, hW⟩))
/-- the fork: both ways -/
theorem fork_two {q : Nat → Bool} {i j : Nat} {ri rj : List Nat} {a : Act} {w : World} {oi oj : Oper} (hi' : ops.toList[i]? = some oi) (hj' : ops.toList[j]? = some oj) (hwi : Region.wanted oi (yielded ops a.tmps) = true) (hwj : Region.wanted oj (yielded ops a.tmps) = true)
    (hi : ∀ K : Act → World → Prop, Shut (∀ a w, S w → wpOrd P md ops Q S q ri a w → K a w) → oi.wp P a w K Q)
    (hj : ∀ K : Act → World → Prop, Shut (∀ a w, S w → wpOrd P md ops Q S q rj a w → K a w) → oj.wp P a w K Q) : wpFork P md ops Q S q i j ri rj a w := by
  have e1 : ops[i]? = some oi := by rw [← Array.getElem?_toList]; exact hi'
  have e2 : ops[j]? = some oj := by rw [← Array.getElem?_toList]; exact hj'
  constructor
  · simp only [wpOp, e1, hwi, if_true]
    exact .inl (hi _ (fun a w hS hW => ⟨hS, hW⟩))
  · simp only [wpOp, e2, hwj, if_true]
    exact .inl (hj _ (fun a w hS hW => ⟨hS, hW⟩))
end
end Go.Proofs.Ytbldcbakhpdigaa
