/- A region that draws its order, walked in one order: quiet operations as soon as they may come, effects one behind the other; a condition S on the world holds till the last effect. No program in sight. -/
import Derived.Test.YtbldcbakhpdigaaMem
import Derived.OrdersHeld
import Derived.Deep.RegionHeld
namespace Go.Proofs.Ytbldcbakhpdigaa
open Go.RowKit

section
variable {P : Program} {ops : Array Oper} {Q : Exit → Act → World → Prop} {md : Region.Mode} {S : World → Prop}

/-- what j waits for directly -/
def edges (md : Region.Mode) (ops : Array Oper) (j : Nat) : List Nat :=
  match ops[j]? with
  | none => []
  | some o => (o.after.toList.filter (Region.binds md)).map (·.on)
/-- what all these wait for, too: once through, from above -/
def marks (md : Region.Mode) (ops : Array Oper) : List Nat → List Nat → List Nat
  | [], l => l
  | i :: r, l => marks md ops r (if l.contains i then (edges md ops i).foldl (fun acc k => if acc.contains k then acc else k :: acc) l else l)
/-- operation j waits for every other one -/
def waitsAll (md : Region.Mode) (ops : Array Oper) (j : Nat) : Bool :=
  let l := marks md ops (List.range ops.size).reverse (edges md ops j)
  (List.range ops.size).all fun i => i == j || l.contains i

/-- what is listed stands behind what it waits for -/
def Shutd (md : Region.Mode) (ops : Array Oper) (listed : Array Bool) : Prop := ∀ i k, i < ops.size → k ∈ edges md ops i → listed.getD i true = true → listed.getD k false = true

theorem edges_of_ready {j k : Nat} {listed : Array Bool} (hj : j ∈ Region.ready md ops listed) (hk : k ∈ edges md ops j) : listed.getD k false = true := by
  obtain ⟨_, o, ho, hall⟩ := mem_ready.1 hj
  unfold edges at hk
  rw [ho] at hk
  simp only [List.mem_map, List.mem_filter, Array.mem_toList_iff] at hk
  obtain ⟨e, ⟨he, hb⟩, rfl⟩ := hk
  exact hall e he hb

theorem Shutd.set {j : Nat} {listed : Array Bool} (h : Shutd md ops listed) (hj : j ∈ Region.ready md ops listed) : Shutd md ops (listed.setIfInBounds j true) := by
  intro i k hi hk hl
  by_cases hij : j = i
  · subst hij; exact getD_set_true (edges_of_ready hj hk)
  · rw [getD_set_ne true hij] at hl; exact getD_set_true (h i k hi hk hl)

theorem Shutd.replicate : Shutd md ops (Array.replicate ops.size false) := by
  intro i k hi hk hl
  simp [hi] at hl

theorem mem_foldl_add {x : Nat} : ∀ (es : List Nat) (l : List Nat), x ∈ es.foldl (fun acc k => if acc.contains k then acc else k :: acc) l → x ∈ es ∨ x ∈ l
  | [], l, h => .inr h
  | e :: r, l, h => by
    rcases mem_foldl_add r _ h with h | h
    · exact .inl (List.mem_cons_of_mem _ h)
    · dsimp only at h
      split at h
      · exact .inr h
      · rcases List.mem_cons.1 h with rfl | h
        · exact .inl (List.mem_cons_self ..)
        · exact .inr h

theorem getD_true_of_false {listed : Array Bool} {i : Nat} (h : listed.getD i false = true) : listed.getD i true = true := by
  rcases Nat.lt_or_ge i listed.size with h' | h'
  · simpa [h'] using h
  · simp [Array.getElem?_eq_none h'] at h

theorem marks_listed {listed : Array Bool} (h : Shutd md ops listed) : ∀ (r l : List Nat), (∀ i ∈ r, i < ops.size) → (∀ x ∈ l, listed.getD x false = true) → ∀ x ∈ marks md ops r l, listed.getD x false = true
  | [], _, _, hl => hl
  | i :: r, l, hr, hl => by
    refine marks_listed h r _ (fun k hk => hr k (List.mem_cons_of_mem _ hk)) ?_
    intro x hx
    split at hx
    · rename_i hc
      rcases mem_foldl_add _ _ hx with hx | hx
      · exact h i x (hr i (List.mem_cons_self ..)) hx (getD_true_of_false (hl i (by simpa using hc)))
      · exact hl x hx
    · exact hl x hx

theorem waitsAll_spec {i j : Nat} {listed : Array Bool} (h : waitsAll md ops j = true) (hs : Shutd md ops listed) (hj : j ∈ Region.ready md ops listed) (hi : i < ops.size) (hne : i ≠ j) : listed.getD i false = true := by
  unfold waitsAll at h
  have := List.all_eq_true.1 h i (List.mem_range.2 hi)
  simp only [Bool.or_eq_true, beq_iff_eq, hne, false_or] at this
  refine marks_listed hs (List.range ops.size).reverse _ (fun k hk => by simpa using hk) (fun x hx => edges_of_ready hj hx) i (by simpa using this)

/-- whatever order is picked from here on; S holds behind every operation but one that waits for all -/
def wpAnyG (P : Program) (md : Region.Mode) (ops : Array Oper) (Q : Exit → Act → World → Prop) (S : World → Prop) : Nat → Array Bool → Act → World → Prop
  | 0, listed, a, w => Region.ready md ops listed = [] ∧ Q .normal a w
  | fuel + 1, listed, a, w =>
    (Region.ready md ops listed = [] → Q .normal a w) ∧
    ∀ i ∈ Region.ready md ops listed, wpOp P ops Q i (fun a' w' => (waitsAll md ops i = true ∨ S w') ∧ wpAnyG P md ops Q S fuel (listed.setIfInBounds i true) a' w') a w

theorem wpAny_of_G : ∀ (fuel : Nat) (listed : Array Bool) (a : Act) (w : World), wpAnyG P md ops Q S fuel listed a w → wpAny P md ops Q fuel listed a w
  | 0, _, _, _, h => h
  | fuel + 1, _, _, _, h => ⟨h.1, fun i hi => wpOp_mono (fun a' w' h' => wpAny_of_G fuel _ a' w' h'.2) (h.2 i hi)⟩

theorem lt_of_ready {i : Nat} {listed : Array Bool} (h : i ∈ Region.ready md ops listed) : i < ops.size := by
  obtain ⟨_, o, ho, _⟩ := mem_ready.1 h
  exact (Array.getElem?_eq_some_iff.1 ho).1

theorem not_waits {i j : Nat} {listed : Array Bool} (hs : Shutd md ops listed) (hi : i ∈ Region.ready md ops listed) (hj : j ∈ Region.ready md ops listed) (hne : i ≠ j) : waitsAll md ops j = false := by
  cases hw : waitsAll md ops j with
  | false => rfl
  | true =>
    have h1 := getD_true_of_false (waitsAll_spec hw hs hj (lt_of_ready hi) hne)
    rw [(mem_ready.1 hi).1] at h1
    cases h1

/-- an operation that may come up now and is quiet may be taken first -/
theorem wpAnyG_first {i : Nat} {oi : Oper} {v : Value} (hi : ops[i]? = some oi) (hsel : ∀ (j : Nat) (o : Oper) cs b, ops[j]? = some o → o.op ≠ .select cs b)
    (hQ : ∀ c a w, Q (.panic c) (a.put oi.dst v) w → Q (.panic c) a w) :
    ∀ (fuel : Nat) (listed : Array Bool) (a : Act) (w : World), Shutd md ops listed →
      (∀ j oj, ops[j]? = some oj → j ≠ i → listed.getD j true = false → (∀ e ∈ oj.after, Region.binds md e = true → e.on ≠ i) → oi.apart ops oj = true) →
      i ∈ Region.ready md ops listed → YieldsIf P ops S oi v a → S w →
      wpAnyG P md ops Q S fuel (listed.setIfInBounds i true) (a.put oi.dst v) w → wpAnyG P md ops Q S (fuel + 1) listed a w := by
  intro fuel
  induction fuel with
  | zero =>
    intro listed a w hsh _ hr hy hS H
    refine ⟨fun h => (by rw [h] at hr; cases hr), fun j hj => ?_⟩
    by_cases hji : j = i
    · subst hji; exact hy.wpOp hi hS ⟨.inr hS, H⟩
    · have := ready_mono hj hji
      rw [H.1] at this
      cases this
  | succ fuel ih =>
    intro listed a w hsh hfree hr hy hS H
    refine ⟨fun h => (by rw [h] at hr; cases hr), fun j hj => ?_⟩
    by_cases hji : j = i
    · subst hji; exact hy.wpOp hi hS ⟨.inr hS, H⟩
    · have h1 := H.2 j (ready_mono hj hji)
      have hnw := not_waits hsh hr hj (Ne.symm hji)
      obtain ⟨hjun, oj, hoj, hall⟩ := mem_ready.1 hj
      have hnot : ∀ e ∈ oj.after, Region.binds md e = true → e.on ≠ i := fun e he hb heq => by
        have q1 := hall e he hb
        have q0 := (mem_ready.1 hr).1
        rw [heq] at q1
        rcases Nat.lt_or_ge i listed.size with h' | h'
        · simp [h'] at q0 q1; rw [q0] at q1; cases q1
        · simp [Array.getElem?_eq_none h'] at q1
      have h2 := wpOp_putIf hoj (hfree j oj hoj hji hjun hnot) (fun cs b => hsel i oi cs b hi) (fun cs b => hsel j oj cs b hoj) hQ hy h1
      have hfree' : ∀ k ok, ops[k]? = some ok → k ≠ i → (listed.setIfInBounds j true).getD k true = false →
          (∀ e ∈ ok.after, Region.binds md e = true → e.on ≠ i) → oi.apart ops ok = true := fun k ok hk hki hun hno => by
        refine hfree k ok hk hki ?_ hno
        by_cases hjk : j = k
        · subst hjk; exact hjun
        · rw [getD_set_ne true hjk] at hun; exact hun
      refine wpOp_mono (fun a' w' h3 => ?_) h2
      have hS' : S w' := h3.2.1.resolve_left (by rw [hnw]; simp)
      refine ⟨.inr hS', ih (listed.setIfInBounds j true) a' w' (hsh.set hj) hfree' (ready_mono hr (Ne.symm hji)) h3.1 hS' ?_⟩
      rw [Array.setIfInBounds_comm _ _ hji]
      exact h3.2.2

/-- the order in which the walk goes is a good one -/
def ordOk (md : Region.Mode) (ops : Array Oper) (q : Nat → Bool) : List Nat → Array Bool → Bool
  | [], listed => (Region.ready md ops listed).isEmpty
  | i :: rest, listed =>
    (if q i then (Region.ready md ops listed).contains i && Region.free md ops listed i
     else (Region.ready md ops listed == [i]) && (!waitsAll md ops i || rest.isEmpty)) && ordOk md ops q rest (listed.setIfInBounds i true)

/-- the walk in that order -/
def wpOrd (P : Program) (md : Region.Mode) (ops : Array Oper) (Q : Exit → Act → World → Prop) (S : World → Prop) (q : Nat → Bool) : List Nat → Act → World → Prop
  | [], a, w => Q .normal a w
  | i :: rest, a, w =>
    if q i then ∃ o v, ops[i]? = some o ∧ (∀ c a w, Q (.panic c) (a.put o.dst v) w → Q (.panic c) a w) ∧ YieldsIf P ops S o v a ∧ wpOrd P md ops Q S q rest (a.put o.dst v) w
    else wpOp P ops Q i (fun a' w' => (waitsAll md ops i = true ∨ S w') ∧ wpOrd P md ops Q S q rest a' w') a w

theorem wpAnyG_of_ord (hs : Region.noSelect ops = true) {q : Nat → Bool} : ∀ (order : List Nat) (fuel : Nat) (listed : Array Bool) (a : Act) (w : World), Shutd md ops listed →
    ordOk md ops q order listed = true → order.length ≤ fuel → (order = [] ∨ S w) → wpOrd P md ops Q S q order a w → wpAnyG P md ops Q S fuel listed a w
  | [], fuel, listed, a, w, _, hok, _, _, h => by
    have h0 : Region.ready md ops listed = [] := by simpa [ordOk] using hok
    cases fuel with
    | zero => exact ⟨h0, h⟩
    | succ fuel => exact ⟨fun _ => h, fun i hi => by rw [h0] at hi; cases hi⟩
  | i :: rest, 0, _, _, _, _, _, hf, _, _ => absurd hf (by simp)
  | i :: rest, fuel + 1, listed, a, w, hsh, hok, hf, hSw, h => by
    have hS : S w := hSw.resolve_left (by simp)
    simp only [ordOk, Bool.and_eq_true] at hok
    obtain ⟨hi, hrest⟩ := hok
    by_cases hq : q i = true
    · simp only [hq, if_true, Bool.and_eq_true] at hi
      simp only [wpOrd, hq, if_true] at h
      obtain ⟨o, v, ho, hQ, hy, h⟩ := h
      exact wpAnyG_first ho (Region.noSelect_spec hs) hQ fuel listed a w hsh (Region.free_spec ho hi.2) (by simpa using hi.1) hy hS
        (wpAnyG_of_ord hs rest fuel _ _ _ (hsh.set (by simpa using hi.1)) hrest (by simpa using hf) (.inr hS) h)
    · rw [if_neg hq, Bool.and_eq_true, beq_iff_eq] at hi
      simp only [wpOrd] at h
      rw [if_neg hq] at h
      have hr : Region.ready md ops listed = [i] := by simpa using hi.1
      refine ⟨fun h0 => (by rw [hr] at h0; cases h0), fun j hj => ?_⟩
      rw [hr] at hj
      obtain rfl : j = i := by simpa using hj
      refine wpOp_mono (fun a' w' h3 => ⟨h3.1, wpAnyG_of_ord hs rest fuel _ _ _ (hsh.set (by rw [hr]; exact List.mem_singleton.2 rfl)) hrest (by simpa using hf) ?_ h3.2⟩) h
      rcases h3.1 with hw | hS'
      · have := hi.2
        simp only [hw] at this
        exact .inl (by simpa using this)
      · exact .inr hS'

/-- the beginning -/
theorem wp_region_ord {id : Nat} {a : Act} {w : World} (S : World → Prop) (q : Nat → Bool) (order : List Nat) (hm : P.follows .mixedOrders = true) (hok : (Region.noSelect ops && decide (order.length ≤ ops.size) && ordOk .any ops q order (Array.replicate ops.size false)) = true)
    (hS : S w.drew) (h : wpOrd P .any ops Q S q order a w.drew) : (Code.region id ops true).wp P Q a w := by
  simp only [Bool.and_eq_true, decide_eq_true_eq] at hok
  exact wp_region_any hm (wpAny_of_G _ _ _ _ (wpAnyG_of_ord hok.1.1 order _ _ _ _ Shutd.replicate hok.2 hok.1.2 (.inr hS) h))

theorem ord_nil {q : Nat → Bool} {a : Act} {w : World} (h : Q .normal a w) : wpOrd P md ops Q S q [] a w := h
/-- a quiet operation -/
theorem ord_q {q : Nat → Bool} {i : Nat} {rest : List Nat} {a : Act} {w : World} {o : Oper} {v : Value} (hq : q i = true) (hi' : ops.toList[i]? = some o) (hQ : ∀ c a w, Q (.panic c) (a.put o.dst v) w → Q (.panic c) a w)
    (hw : Region.wanted o (yielded ops a.tmps) = true) (hy : ∀ W, S W → (execOp a.eval o).run P W = .ok (.value v) W) (h : wpOrd P md ops Q S q rest (a.put o.dst v) w) : wpOrd P md ops Q S q (i :: rest) a w := by
  have hi : ops[i]? = some o := by rw [← Array.getElem?_toList]; exact hi'
  simp only [wpOrd, hq, if_true]; exact ⟨o, v, hi, hQ, .inl ⟨hw, hy⟩, h⟩
/-- a quiet operation whose guard says no -/
theorem ord_skip {q : Nat → Bool} {i : Nat} {rest : List Nat} {a : Act} {w : World} {o : Oper} (hq : q i = true) (hi' : ops.toList[i]? = some o) (hQ : ∀ c a w, Q (.panic c) (a.put o.dst undef) w → Q (.panic c) a w)
    (hw : Region.wanted o (yielded ops a.tmps) = false) (h : wpOrd P md ops Q S q rest (a.put o.dst undef) w) : wpOrd P md ops Q S q (i :: rest) a w := by
  have hi : ops[i]? = some o := by rw [← Array.getElem?_toList]; exact hi'
  simp only [wpOrd, hq, if_true]; exact ⟨o, undef, hi, hQ, .inr ⟨hw, rfl⟩, h⟩
/-- an effect -/
theorem ord_e {q : Nat → Bool} {i : Nat} {rest : List Nat} {a : Act} {w : World} {o : Oper} (hq : q i = false) (hi' : ops.toList[i]? = some o) (hw : Region.wanted o (yielded ops a.tmps) = true)
    (h : ∀ K : Act → World → Prop, Shut (∀ a w, S w → wpOrd P md ops Q S q rest a w → K a w) → o.wp P a w K Q) : wpOrd P md ops Q S q (i :: rest) a w := by
  have hi : ops[i]? = some o := by rw [← Array.getElem?_toList]; exact hi'
  simp only [wpOrd, hq, wpOp, hi, hw, if_true]
  exact .inl (h _ (fun a w hS hW => ⟨.inr hS, hW⟩))
/-- the last effect -/
theorem ord_l {q : Nat → Bool} {i : Nat} {rest : List Nat} {a : Act} {w : World} {o : Oper} (hq : q i = false) (hi' : ops.toList[i]? = some o) (hw : Region.wanted o (yielded ops a.tmps) = true) (hl : waitsAll md ops i = true)
    (h : ∀ K : Act → World → Prop, Shut (∀ a w, wpOrd P md ops Q S q rest a w → K a w) → o.wp P a w K Q) : wpOrd P md ops Q S q (i :: rest) a w := by
  have hi : ops[i]? = some o := by rw [← Array.getElem?_toList]; exact hi'
  simp only [wpOrd, hq, wpOp, hi, hw, if_true]
  exact .inl (h _ (fun a w hW => ⟨.inl hl, hW⟩))
end

end Go.Proofs.Ytbldcbakhpdigaa
