/- ReplC, JoinC, JoinW -/
import Derived.Test.YtbldcbakhpdigaaGreatJ6
import Derived.Deep.CutRange
import Derived.Deep.CutBlock
/- Rows of kids under replace; the place of a key. Plain. -/
namespace Go.Proofs.YtbldcbakhpdigaaGreat
open Go.RowKit

/-- the node's kids are the row's -/
def RowOf (nd : Nd) (lo : ByteArray) (R : List (ByteArray × Int)) : Prop := lo :: nd.keys = R.map (·.1) ∧ nd.kids = R.map (·.2)

theorem RowOf.row {nd : Nd} {lo : ByteArray} {R : List (ByteArray × Int)} (h : RowOf nd lo R) : nd.row lo = R := by
  unfold Nd.row
  rw [h.1, h.2, List.zip_map']
  simp
theorem rowOf {nd : Nd} (ok : nd.Ok) (hk : nd.kids ≠ []) (lo : ByteArray) : RowOf nd lo (nd.row lo) := by
  obtain ⟨b, l, e, e2, e3⟩ := zip_lows ok.kk hk lo
  unfold Nd.row
  rw [e]
  exact ⟨by simp [e2], by simp [e3]⟩
theorem RowOf.len {nd : Nd} {lo : ByteArray} {R : List (ByteArray × Int)} (h : RowOf nd lo R) : nd.kids.length = R.length ∧ nd.keys.length + 1 = R.length := by
  have h1 := congrArg List.length h.1
  have h2 := congrArg List.length h.2
  simp at h1 h2
  omega
theorem RowOf.ne {nd : Nd} {lo : ByteArray} {R : List (ByteArray × Int)} (h : RowOf nd lo R) : R ≠ [] := fun e => by
  have := h.len; subst e; simp at this

/-- the first one's low key is told anew -/
def relab (lo : ByteArray) : List (ByteArray × Int) → List (ByteArray × Int)
  | [] => []
  | (_, b) :: r => (lo, b) :: r

theorem pcRow_fst (k : ByteArray) (ps : List Pc) : (pcRow k ps).map (·.1) = moreL k ps := by cases ps <;> simp [pcRow, moreL]
theorem pcRow_snd (k : ByteArray) (ps : List Pc) : (pcRow k ps).map (·.2) = ps.map (·.1) := by cases ps <;> simp [pcRow]

theorem repl_rowOf {nd : Nd} {lo k : ByteArray} {b : Int} {L M : List (ByteArray × Int)} {ps : List Pc} (h : RowOf nd lo (L ++ (k, b) :: M)) (hne : L ≠ [] ∨ ps ≠ []) : RowOf (nd.repl L.length ps) lo (L ++ pcRow k ps ++ M) := by
  obtain ⟨h1, h2⟩ := h
  constructor
  · cases L with
    | nil =>
      simp only [List.nil_append, List.map_cons, List.cons.injEq] at h1
      obtain ⟨rfl, h1⟩ := h1
      cases ps with
      | nil => simp at hne
      | cons p r =>
        simp only [Nd.repl, exKeys, h1, List.length_nil, List.take_zero, List.nil_append, moreL, List.cons_append, List.drop_succ_cons, List.drop_zero, pcRow, List.map_cons, List.map_append, List.map_map, List.cons.injEq, true_and]
        rfl
    | cons l L =>
      simp only [List.cons_append, List.map_cons, List.cons.injEq, List.map_append] at h1
      obtain ⟨rfl, h1⟩ := h1
      have hg : (exKeys nd).getD (L.length + 1) ⟨#[]⟩ = k := by
        simp [exKeys, h1, List.getD_eq_getElem?_getD]
      simp only [Nd.repl, List.length_cons, hg]
      simp only [exKeys, h1, List.take_succ_cons, List.cons_append, List.drop_succ_cons, List.drop_zero, List.map_cons, List.map_append, pcRow_fst]
      congr 1
      rw [List.take_append_of_le_length (by simp), List.take_of_length_le (by simp), List.drop_append]
      simp
  · simp only [Nd.repl, h2, List.map_append, List.map_cons, pcRow_snd]
    rw [List.take_append_of_le_length (by simp), List.take_of_length_le (by simp)]
    congr 1
    rw [List.drop_append]
    simp
theorem repl_rowOf0 {nd : Nd} {lo k : ByteArray} {b : Int} {M : List (ByteArray × Int)} (h : RowOf nd lo ((k, b) :: M)) (hM : M ≠ []) : RowOf (nd.repl 0 []) lo (relab lo M) := by
  obtain ⟨h1, h2⟩ := h
  simp only [List.map_cons, List.cons.injEq] at h1
  obtain ⟨rfl, h1⟩ := h1
  cases M with
  | nil => exact absurd rfl hM
  | cons m M =>
    constructor
    · simp [Nd.repl, exKeys, h1, moreL, relab]
    · simp [Nd.repl, h2, relab]

/-- the kid in which a key lies -/
theorem row_split {key : ByteArray} : ∀ {k : ByteArray} {b : Int} {r : List (ByteArray × Int)}, lt key k = false → ∃ L k' b' M, (k, b) :: r = L ++ (k', b') :: M ∧ L.length = kidAt (r.map (·.1)) key ∧ lt key k' = false ∧ ∀ k2 b2 M2, M = (k2, b2) :: M2 → lt key k2 = true
  | k, b, [], hk => ⟨[], k, b, [], rfl, rfl, hk, fun _ _ _ h => by cases h⟩
  | k, b, (k1, b1) :: r, hk => by
    cases h1 : lt key k1 with
    | true => exact ⟨[], k, b, (k1, b1) :: r, rfl, by simp [kidAt, h1], hk, fun _ _ _ h => by cases h; exact h1⟩
    | false =>
      obtain ⟨L, k', b', M, e, e2, e3, e4⟩ := row_split (b := b1) (r := r) h1
      exact ⟨(k, b) :: L, k', b', M, by rw [e]; rfl, by simp [kidAt, h1, e2], e3, e4⟩

/-- a change of a leaf's pairs at one key -/
structure LocF (F : List Pr → List Pr) (key : ByteArray) : Prop where
  loc : ∀ cl c cr, (∀ p ∈ cl, lt p.1 key = true) → (∀ p ∈ cr, lt key p.1 = true) → F (cl ++ c ++ cr) = cl ++ F c ++ cr
  rise : ∀ c, RisingP c → RisingP (F c)
  mem : ∀ c, RisingP c → ∀ p ∈ F c, p ∈ c ∨ (p.1 = key ∧ p.1.size ≤ 128 ∧ p.2.size ≤ 64)
  len : ∀ c, (F c).length ≤ c.length + 1

theorem posAt_left (cl r : List Pr) (key : ByteArray) (h : ∀ p ∈ cl, lt p.1 key = true) : posAt (cl ++ r) key = cl.length + posAt r key := by
  unfold posAt
  rw [List.takeWhile_append_of_pos h, List.length_append]
theorem posAt_right (c cr : List Pr) (key : ByteArray) (h : ∀ p ∈ cr, lt key p.1 = true) : posAt (c ++ cr) key = posAt c key := by
  induction c with
  | nil =>
    cases cr with
    | nil => rfl
    | cons p r => simp [posAt, lt_asymm (h p (by simp))]
  | cons p c ih =>
    unfold posAt at *
    rw [List.cons_append, List.takeWhile_cons, List.takeWhile_cons]
    split
    · simp [ih]
    · rfl
theorem posAt_both (cl c cr : List Pr) (key : ByteArray) (h1 : ∀ p ∈ cl, lt p.1 key = true) (h2 : ∀ p ∈ cr, lt key p.1 = true) : posAt (cl ++ c ++ cr) key = cl.length + posAt c key := by
  rw [List.append_assoc, posAt_left _ _ _ h1, posAt_right _ _ _ h2]
theorem isAt_both (cl c cr : List Pr) (key : ByteArray) (h1 : ∀ p ∈ cl, lt p.1 key = true) (h2 : ∀ p ∈ cr, lt key p.1 = true) : isAt (cl ++ c ++ cr) key = isAt c key := by
  unfold isAt
  rw [posAt_both cl c cr key h1 h2, List.append_assoc, List.getElem?_append_right (by omega), Nat.add_sub_cancel_left]
  by_cases hc : posAt c key < c.length
  · rw [List.getElem?_append_left hc]
  · rw [List.getElem?_append_right (by omega), List.getElem?_eq_none (l := c) (by omega)]
    have hp := posAt_le c key
    cases cr with
    | nil => rfl
    | cons p r =>
      rw [show posAt c key - c.length = 0 by omega]
      have := lt_ne (h2 p (by simp))
      simp only [List.getElem?_cons_zero, decide_eq_false_iff_not]
      exact fun e => this e.symm

theorem ins_loc (key value : ByteArray) : ∀ cl c cr, (∀ p ∈ cl, lt p.1 key = true) → (∀ p ∈ cr, lt key p.1 = true) → insP (cl ++ c ++ cr) key value = cl ++ insP c key value ++ cr := by
  intro cl c cr h1 h2
  have hp := posAt_le c key
  unfold insP
  rw [isAt_both cl c cr key h1 h2, posAt_both cl c cr key h1 h2]
  cases hat : isAt c key with
  | true =>
    obtain ⟨hlt, _⟩ := isAt_lt hat
    simp only [if_true]
    rw [List.append_assoc, List.set_append_right _ _ (by omega), Nat.add_sub_cancel_left, List.set_append_left _ _ hlt, List.append_assoc]
  | false =>
    simp only [Bool.false_eq_true, if_false]
    rw [List.append_assoc, List.take_append, List.drop_append, List.take_of_length_le (by omega), List.drop_of_length_le (by omega), Nat.add_sub_cancel_left, List.take_append_of_le_length hp, List.drop_append_of_le_length hp]
    simp
theorem del_loc (key : ByteArray) : ∀ cl c cr, (∀ p ∈ cl, lt p.1 key = true) → (∀ p ∈ cr, lt key p.1 = true) → delP (cl ++ c ++ cr) key = cl ++ delP c key ++ cr := by
  intro cl c cr h1 h2
  have hp := posAt_le c key
  unfold delP
  rw [isAt_both cl c cr key h1 h2, posAt_both cl c cr key h1 h2]
  cases hat : isAt c key with
  | true =>
    obtain ⟨hlt, _⟩ := isAt_lt hat
    simp only [if_true]
    rw [List.append_assoc, List.take_append, List.drop_append, List.take_of_length_le (by omega), List.drop_of_length_le (by omega), Nat.add_assoc, Nat.add_sub_cancel_left, Nat.add_sub_cancel_left, List.take_append_of_le_length hp, List.drop_append_of_le_length (by omega)]
    simp
  | false => simp

theorem ins_locF (key value : ByteArray) (hk : key.size ≤ 128) (hv : value.size ≤ 64) : LocF (fun ps => insP ps key value) key := by
  refine ⟨ins_loc key value, fun c hr => ?_, fun c hr p hp => ?_, fun c => ?_⟩
  · obtain ⟨f1, f2⟩ := posAt_facts key c hr
    unfold insP
    split
    · rename_i hat
      obtain ⟨hlt, hkey⟩ := isAt_lt hat
      refine List.pairwise_iff_getElem.2 fun i j hi hj hij => ?_
      have := List.pairwise_iff_getElem.1 hr i j (by simpa using hi) (by simpa using hj) hij
      rw [List.getElem_set, List.getElem_set]
      split
      · rename_i e; subst e
        rw [if_neg (by omega)]
        rw [hkey] at this; exact this
      · split
        · rename_i e; subst e
          rw [hkey] at this; exact this
        · exact this
    · rename_i hat
      have hne : ∀ i (h : i < c.length), posAt c key ≤ i → lt key c[i].1 = true := by
        intro i hi hle
        have h1 := f2 i hi hle
        cases h2 : lt key c[i].1 with
        | true => rfl
        | false =>
          have e := lt_total h1 h2
          have hi2 : i = posAt c key := by
            rcases Nat.lt_or_ge (posAt c key) i with h3 | h3
            · have h4 := List.pairwise_iff_getElem.1 hr (posAt c key) i (by omega) hi h3
              have h5 := f2 (posAt c key) (by omega) (Nat.le_refl _)
              rw [e] at h4; rw [h4] at h5; cases h5
            · omega
          subst hi2
          exfalso
          apply hat
          unfold isAt
          rw [List.getElem?_eq_getElem hi]
          simp [e]
      refine List.pairwise_append.2 ⟨hr.sublist (List.take_sublist _ _), List.pairwise_cons.2 ⟨fun q hq => ?_, hr.sublist (List.drop_sublist _ _)⟩, fun q hq z hz => ?_⟩
      · obtain ⟨i, hi, rfl⟩ := List.getElem_of_mem hq
        rw [List.getElem_drop]
        exact hne _ _ (by omega)
      · obtain ⟨i, hi, rfl⟩ := List.getElem_of_mem hq
        rw [List.length_take] at hi
        rw [List.getElem_take]
        have h1 := f1 i (by omega) (by omega)
        rcases List.mem_cons.1 hz with rfl | hz
        · exact h1
        · obtain ⟨j, hj, rfl⟩ := List.getElem_of_mem hz
          rw [List.getElem_drop]
          exact lt_trans h1 (hne _ _ (by omega))
  · unfold insP at hp
    split at hp
    · rcases List.mem_or_eq_of_mem_set hp with h | rfl
      · exact .inl h
      · exact .inr ⟨rfl, hk, hv⟩
    · rcases List.mem_append.1 hp with h | h
      · exact .inl (List.mem_of_mem_take h)
      · rcases List.mem_cons.1 h with rfl | h
        · exact .inr ⟨rfl, hk, hv⟩
        · exact .inl (List.mem_of_mem_drop h)
  · simp only [insP]
    split <;> simp <;> omega
theorem del_locF (key : ByteArray) : LocF (fun ps => delP ps key) key := by
  have hsub : ∀ c, (delP c key).Sublist c := fun c => by
    unfold delP
    split
    · have h1 : (c.take (posAt c key) ++ c.drop (posAt c key + 1)).Sublist (c.take (posAt c key) ++ c.drop (posAt c key)) :=
        List.Sublist.append (List.Sublist.refl _) (List.drop_sublist_drop_left _ (by omega))
      rwa [List.take_append_drop] at h1
    · exact List.Sublist.refl _
  exact ⟨del_loc key, fun c hr => hr.sublist (hsub c), fun c _ p hp => .inl ((hsub c).mem hp), fun c => Nat.le_succ_of_le (hsub c).length_le⟩
end Go.Proofs.YtbldcbakhpdigaaGreat

/- The store's room; what replace and join leave of a row of kids. Plain. -/
namespace Go.Proofs.YtbldcbakhpdigaaGreat
open Go.RowKit

/-- there is room for twice n blocks, beside what others have -/
def Room (σ : MSt) (bs : List Int) (n : Nat) : Prop := Maps.size σ.D + 2 * n ≤ σ.most + nh σ bs
theorem Chg.room {σ σ' : MSt} {us bs : List Int} {n : Nat} (h : Chg σ σ' us bs) (r : Room σ us n) : Room σ' bs n := by
  have := h.size
  unfold Room at *
  rw [h.most, nh_eq h.H]; omega

theorem TrM.top {σ : MSt} {h m : Nat} {lo : ByteArray} {hi : Option ByteArray} {b : Int} {cs : List Pr} {bs : List Int} (ht : TrM σ h m lo hi b cs bs) : 1 ≤ b ∧ b ≤ 4096 := by
  obtain ⟨nd, _, h1, _⟩ := trM_iff.1 ht
  exact ⟨h1.lo, h1.hi⟩
theorem RowL.tops {T : ByteArray → Option ByteArray → Int → List Pr → List Int → Prop} {q : Int → Prop} (hT : ∀ k z b c x, T k z b c x → q b) {hi : Option ByteArray} : ∀ {l : List (ByteArray × Int)} {cs : List Pr} {bs : List Int}, RowL T hi l cs bs → ∀ p ∈ l, q p.2
  | [], _, _, _ => by simp
  | (k, b) :: l, _, _, h => by
    obtain ⟨c, cs', x, bs', h1, h2, rfl, rfl⟩ := h
    intro p hp
    rcases List.mem_cons.1 hp with rfl | hp
    · exact hT _ _ _ _ _ h1
    · exact RowL.tops hT h2 p hp

theorem RowOf.ok {nd : Nd} {lo : ByteArray} {R : List (ByteArray × Int)} (h : RowOf nd lo R) (hp : nd.pairs = []) (hky : ∀ k ∈ nd.keys, k.size ≤ 128) (hkd : ∀ p ∈ R, 1 ≤ p.2 ∧ p.2 ≤ 4096) (hl : R.length ≤ 2000) : nd.Ok := by
  have hlen := h.len
  refine ⟨by simp [hp], hky, fun k hk => ?_, by omega, fun _ => hp, by simp [hp], by omega⟩
  rw [h.2] at hk
  obtain ⟨p, hp, rfl⟩ := List.mem_map.1 hk
  exact hkd p hp

theorem repl_keys {nd : Nd} {i : Nat} {ps : List Pc} (h : ∀ k ∈ nd.keys, k.size ≤ 128) (hp : ∀ p ∈ ps, p.2.size ≤ 128) : ∀ k ∈ (nd.repl i ps).keys, k.size ≤ 128 := by
  have he : ∀ k ∈ exKeys nd, k.size ≤ 128 := fun k hk => by
    rcases List.mem_cons.1 hk with rfl | hk
    · exact Nat.zero_le _
    · exact h k hk
  have hg : ((exKeys nd).getD i ⟨#[]⟩).size ≤ 128 := by
    rw [List.getD_eq_getElem?_getD]
    cases hq : (exKeys nd)[i]? with
    | none => exact Nat.zero_le _
    | some x => exact he x (List.mem_of_getElem? hq)
  intro k hk
  have hk := List.mem_of_mem_drop hk
  rcases List.mem_append.1 hk with hk | hk
  · rcases List.mem_append.1 hk with hk | hk
    · exact he k (List.mem_of_mem_take hk)
    · cases ps with
      | nil => cases hk
      | cons p r =>
        rcases List.mem_cons.1 hk with rfl | hk
        · exact hg
        · obtain ⟨q, hq, rfl⟩ := List.mem_map.1 hk
          exact hp q (List.mem_cons_of_mem _ hq)
  · exact he k (List.mem_of_mem_drop hk)

theorem Spr.keys {nd : Nd} {l : ByteArray} {zs : List (ByteArray × Nd)} (h : Spr nd l zs) (ok : nd.Ok) (hl : l.size ≤ 128) : ∀ z ∈ zs, z.1.size ≤ 128 := by
  have hle : ∀ (nd : Nd) (l : ByteArray), nd.Ok → l.size ≤ 128 → (leastOf nd l).size ≤ 128 := fun nd l ok hl => by
    unfold leastOf
    split
    · cases hq : nd.pairs with
      | nil => exact Nat.zero_le _
      | cons p r => exact (ok.pr p (by rw [hq]; simp)).1
    · exact hl
  induction h with
  | none _ _ => simp
  | one _ _ => intro z hz; rw [List.mem_singleton.1 hz]; exact hle _ _ ok hl
  | @leaf nd l i hi A B hk hs hi1 _ _ iha ihb =>
    intro z hz
    rcases List.mem_append.1 hz with hz | hz
    · exact iha (ok.left i hk) hl z hz
    · exact ihb (ok.right i hk) (hle _ _ (ok.right i hk) (ok.pr _ (List.getElem_mem hi)).1) z hz
  | @inner nd l i hi A B hk hs hi1 _ _ iha ihb =>
    intro z hz
    rcases List.mem_append.1 hz with hz | hz
    · exact iha (ok.leftI i (by omega)) hl z hz
    · exact ihb (ok.rightI i) (hle _ _ (ok.rightI i) (ok.ky _ (List.getElem_mem hi))) z hz
theorem Puts.keys : ∀ {zs : List (ByteArray × Nd)} {σ σ' : MSt} {ps : List Pc}, Puts σ ps zs σ' → (∀ z ∈ zs, z.1.size ≤ 128) → ∀ p ∈ ps, p.2.size ≤ 128
  | [], _, _, [], _, _ => by simp
  | [], _, _, _ :: _, h, _ => absurd h id
  | _ :: _, _, _, [], h, _ => absurd h id
  | z :: zs, _, _, p :: ps, h, hz => by
    obtain ⟨τ, h1, h2, h3⟩ := h
    intro q hq
    rcases List.mem_cons.1 hq with rfl | hq
    · rw [h1]; exact hz z (by simp)
    · exact Puts.keys h3 (fun y hy => hz y (List.mem_cons_of_mem _ hy)) q hq

/-- what edit answers: pieces that bear a content -/
structure Pcs (σ : MSt) (h m : Nat) (lo : ByteArray) (hi : Option ByteArray) (ps : List Pc) (cs : List Pr) (bs : List Int) : Prop where
  row : RowL (TrM σ h m) hi (pcRow lo ps) cs bs
  key : ∀ p ∈ ps, p.2.size ≤ 128
  len : ps.length ≤ 900
  m1 : 1 ≤ m
  m2 : m ≤ 2
  single : m = 2 ∨ ps.length = 1

/-- a row of kids of which the one at i may have a single kid -/
inductive Mid (σ : MSt) (h : Nat) (hi : Option ByteArray) : List (ByteArray × Int) → Nat → List Pr → List Int → Prop
  | two {R i cs bs} : RowL (TrM σ h 2) hi R cs bs → Mid σ h hi R i cs bs
  | one {L k b M cl bl c x cm bm} : RowL (TrM σ h 2) (some k) L cl bl → TrM σ h 1 k (nextLo M hi) b c x → RowL (TrM σ h 2) hi M cm bm → 2 ≤ (L ++ (k, b) :: M).length → Mid σ h hi (L ++ (k, b) :: M) L.length (cl ++ (c ++ cm)) (bl ++ (x ++ bm))

theorem after_repl {σ : MSt} {h m : Nat} {lo k : ByteArray} {b : Int} {hi : Option ByteArray} {nd : Nd} {L M : List (ByteArray × Int)} {cl cm c : List Pr} {bl bm x : List Int} {ps : List Pc} (hR : RowOf nd lo (L ++ (k, b) :: M)) (hL : RowL (TrM σ h 2) (some k) L cl bl) (hM : RowL (TrM σ h 2) hi M cm bm) (hP : Pcs σ h m k (nextLo M hi) ps c x) (h2 : 2 ≤ (L ++ (k, b) :: M).length)
    (hlo : ∀ k1 b1 M', M = (k1, b1) :: M' → lt k1 lo = false) (hkz : ∀ y, nextLo M hi = some y → lt y k = false) :
    ∃ R, RowOf (nd.repl L.length ps) lo R ∧ Mid σ h hi R L.length (cl ++ (c ++ cm)) (bl ++ (x ++ bm)) ∧ R.length ≤ L.length + ps.length + M.length := by
  cases ps with
  | nil =>
    obtain ⟨rfl, rfl⟩ := hP.row
    cases L with
    | nil =>
      obtain ⟨rfl, rfl⟩ := hL
      cases M with
      | nil => simp at h2
      | cons q M =>
        obtain ⟨k1, b1⟩ := q
        refine ⟨_, repl_rowOf0 hR (by simp), .two (RowL.weakenLo (fun z b c x ht => TrM.weaken ht (hlo k1 b1 M rfl) (fun y hy => ⟨y, hy, lt_irrefl y⟩)) hM), by simp [relab]⟩
    | cons l L =>
      refine ⟨_, repl_rowOf hR (.inl (by simp)), .two ?_, by simp [pcRow]; omega⟩
      have hL' : RowL (TrM σ h 2) (nextLo M hi) (l :: L) cl bl := RowL.weakenHi (fun k' b' c' x' ht => TrM.weaken ht (lt_irrefl _) (fun y hy => ⟨k, rfl, hkz y hy⟩)) hL
      have := hM.append hL'
      simpa [pcRow] using this
  | cons p r =>
    refine ⟨_, repl_rowOf hR (.inr (by simp)), ?_, by simp [pcRow]; omega⟩
    by_cases hr : r = []
    · subst hr
      obtain ⟨c1, c2, x1, x2, ht, ⟨rfl, rfl⟩, rfl, rfl⟩ := hP.row
      rw [List.append_nil, List.append_nil]
      have ht' : TrM σ h 1 k (nextLo M hi) p.1 c1 x1 := ht.less hP.m1
      have := Mid.one (b := p.1) hL ht' hM (by simpa using h2)
      simpa [pcRow] using this
    · have hm : m = 2 := hP.single.resolve_right (by cases r with | nil => exact absurd rfl hr | cons _ _ => simp)
      subst hm
      have h1 := RowL.append hM hP.row
      rw [List.append_assoc]
      exact .two (RowL.append h1 hL)

/-- two neighbours, and the rest of the row -/
structure PairAt (σ : MSt) (h : Nat) (hi : Option ByteArray) (R : List (ByteArray × Int)) (j : Nat) (cs : List Pr) (bs : List Int) (L : List (ByteArray × Int)) (k1 : ByteArray) (b1 : Int) (k2 : ByteArray) (b2 : Int) (M : List (ByteArray × Int)) (cl ca cb cm : List Pr) (bl xa xb bm : List Int) (m1 m2 : Nat) : Prop where
  row : R = L ++ (k1, b1) :: (k2, b2) :: M
  len : L.length = j
  l : RowL (TrM σ h 2) (some k1) L cl bl
  a : TrM σ h m1 k1 (some k2) b1 ca xa
  b : TrM σ h m2 k2 (nextLo M hi) b2 cb xb
  m : RowL (TrM σ h 2) hi M cm bm
  cs : cs = cl ++ (ca ++ (cb ++ cm))
  bs : bs = bl ++ (xa ++ (xb ++ bm))
  m12 : (m1 = 2 ∧ m2 = 2) ∨ (m1 = 1 ∧ m2 = 2) ∨ (m1 = 2 ∧ m2 = 1)

theorem Mid.skip {σ : MSt} {h : Nat} {hi : Option ByteArray} {R : List (ByteArray × Int)} {i : Nat} {cs : List Pr} {bs : List Int} (hm : Mid σ h hi R i cs bs) (hs : R.length < 2 ∨ R.length ≤ i) : RowL (TrM σ h 2) hi R cs bs := by
  cases hm with
  | two h => exact h
  | one h1 h2 h3 h4 => simp at hs h4; omega

theorem Mid.pair {σ : MSt} {h : Nat} {hi : Option ByteArray} {R : List (ByteArray × Int)} {i : Nat} {cs : List Pr} {bs : List Int} (hm : Mid σ h hi R i cs bs) (h2 : 2 ≤ R.length) :
    ∃ L k1 b1 k2 b2 M cl ca cb cm bl xa xb bm m1 m2, PairAt σ h hi R (min i (R.length - 2)) cs bs L k1 b1 k2 b2 M cl ca cb cm bl xa xb bm m1 m2 := by
  cases hm with
  | two hr =>
    obtain ⟨j, hj⟩ : ∃ j, j = min i (R.length - 2) := ⟨_, rfl⟩
    rw [← hj]
    have e1 := List.take_append_drop j R
    have e2 : R.drop j = R[j]'(by omega) :: R[j + 1]'(by omega) :: R.drop (j + 2) := by
      rw [List.drop_eq_getElem_cons (by omega), List.drop_eq_getElem_cons (i := j + 1) (by omega)]
    generalize R[j]'(by omega) = p1 at e2
    generalize R[j + 1]'(by omega) = p2 at e2
    obtain ⟨k1, b1⟩ := p1
    obtain ⟨k2, b2⟩ := p2
    have hl : (R.take j).length = j := by rw [List.length_take]; omega
    rw [e2] at e1
    generalize R.take j = L at e1 hl
    generalize R.drop (j + 2) = M at e1
    rw [← e1] at hr
    obtain ⟨cl, cr, bl, br, r1, r2, rfl, rfl⟩ := hr.split
    obtain ⟨ca, cr, xa, br, ta, ⟨cb, cm, xb, bm, tb, rm, rfl, rfl⟩, rfl, rfl⟩ := r2
    exact ⟨L, k1, b1, k2, b2, M, cl, ca, cb, cm, bl, xa, xb, bm, 2, 2, e1.symm, hl, r1, ta, tb, rm, rfl, rfl, .inl ⟨rfl, rfl⟩⟩
  | @one L k b M cl bl c x cm bm h1 h3 h4 h5 =>
    cases M with
    | cons q M =>
      obtain ⟨k2, b2⟩ := q
      obtain ⟨cb, cm, xb, bm, tb, rm, rfl, rfl⟩ := h4
      exact ⟨L, k, b, k2, b2, M, cl, c, cb, cm, bl, x, xb, bm, 1, 2, rfl, by simp; omega, h1, h3, tb, rm, rfl, rfl, .inr (.inl ⟨rfl, rfl⟩)⟩
    | nil =>
      obtain ⟨rfl, rfl⟩ := h4
      rcases List.eq_nil_or_concat L with rfl | ⟨L, q, rfl⟩
      · simp at h5
      · obtain ⟨k1, b1⟩ := q
        rw [List.concat_eq_append] at h1
        obtain ⟨cl', cr, bl', br, r1, r2, rfl, rfl⟩ := h1.split
        obtain ⟨ca, c0, xa, x0, ta, ⟨rfl, rfl⟩, rfl, rfl⟩ := r2
        exact ⟨L, k1, b1, k, b, [], cl', ca, c, [], bl', xa, x, [], 2, 1, by simp, by simp, r1, ta, h3, ⟨rfl, rfl⟩, by simp, by simp, .inr (.inr ⟨rfl, rfl⟩)⟩

/-- two neighbours in one node; k: the low key of the second -/
def joinNd (A B : Nd) (k : ByteArray) : Nd := ⟨A.pairs ++ B.pairs, if A.kids = [] then [] else A.keys ++ [k] ++ B.keys, A.kids ++ B.kids⟩

theorem NdRow.rows {σ : MSt} {h : Nat} {lo : ByteArray} {hi : Option ByteArray} {nd : Nd} {cs : List Pr} {bs : List Int} (hn : NdRow σ (h + 1) lo hi nd cs bs) (ok : nd.Ok) : RowOf nd lo (nd.row lo) := rowOf ok hn.1 lo

theorem join_node {σ : MSt} {h : Nat} {k1 k2 : ByteArray} {hi : Option ByteArray} {A B : Nd} {ca cb : List Pr} {xa xb : List Int} (okA : A.Ok) (okB : B.Ok) (hA : NdRow σ h k1 (some k2) A ca xa) (hB : NdRow σ h k2 hi B cb xb) (na : ca ≠ []) (nb : cb ≠ []) (hk2 : k2.size ≤ 128) (fA : A.Fits) (fB : B.Fits) :
    NdRow σ h k1 hi (joinNd A B k2) (ca ++ cb) (xa ++ xb) ∧ (joinNd A B k2).Ok ∧ (joinNd A B k2).kids.length = A.kids.length + B.kids.length ∧ (joinNd A B k2).pairs.length = A.pairs.length + B.pairs.length := by
  have hokk : (joinNd A B k2).Ok ↔ (joinNd A B k2).keys.length = (joinNd A B k2).kids.length - 1 ∧ ((joinNd A B k2).kids ≠ [] → (joinNd A B k2).pairs = []) := by
    constructor
    · exact fun h => ⟨h.kk, h.one⟩
    · rintro ⟨h1, h2⟩
      have a1 := fA.np; have a2 := fB.np; have a3 := fA.nk; have a4 := fB.nk
      refine ⟨fun p hp => ?_, fun k hk => ?_, fun k hk => ?_, h1, h2, by simp [joinNd]; omega, by simp [joinNd]; omega⟩
      · rcases List.mem_append.1 hp with hp | hp
        · exact okA.pr p hp
        · exact okB.pr p hp
      · unfold joinNd at hk
        dsimp only at hk
        split at hk
        · cases hk
        · simp only [List.append_assoc, List.mem_append, List.mem_singleton] at hk
          rcases hk with hk | rfl | hk
          · exact okA.ky k hk
          · exact hk2
          · exact okB.ky k hk
      · rcases List.mem_append.1 hk with hk | hk
        · exact okA.kd k hk
        · exact okB.kd k hk
  refine ⟨?_, hokk.2 ?_, by simp [joinNd], by simp [joinNd]⟩
  · cases h with
    | zero =>
      obtain ⟨a1, a2, a3, a4, a5⟩ := hA
      obtain ⟨b1, b2, b3, b4, b5⟩ := hB
      have := Content.append ⟨na, a3, a4⟩ ⟨nb, b3, b4⟩
      exact ⟨by simp [joinNd, a1, b1], by simp [joinNd, a2, b2], this.rise, this.within, by simp [a5, b5]⟩
    | succ h =>
      have rA := hA.rows okA
      have rB := hB.rows okB
      have rJ : RowOf (joinNd A B k2) k1 (A.row k1 ++ B.row k2) := by
        constructor
        · simp only [joinNd, if_neg hA.1, List.map_append, ← rA.1, ← rB.1]
          simp
        · simp only [joinNd, List.map_append, ← rA.2, ← rB.2]
      refine ⟨by simp [joinNd, hA.1], ?_⟩
      rw [rJ.row]
      have hnl : nextLo (B.row k2) hi = some k2 := by
        obtain ⟨b, l, e, _⟩ := zip_lows okB.kk hB.1 k2
        unfold Nd.row
        rw [e]; rfl
      have h1 := hA.2
      rw [← hnl] at h1
      exact RowL.append hB.2 h1
  · cases h with
    | zero => simp [joinNd, hA.1, hB.1]
    | succ h =>
      have a1 := okA.kk; have a2 := okB.kk
      have a3 := List.length_pos_iff.2 hA.1; have a4 := List.length_pos_iff.2 hB.1
      refine ⟨by simp [joinNd, hA.1]; omega, fun _ => by simp [joinNd, okA.one hA.1, okB.one hB.1]⟩

/-- a row of kids, one of them taken away -/
def Nd.delAt (nd : Nd) (j : Nat) : Nd := ⟨nd.pairs, nd.keys.take j ++ nd.keys.drop (j + 1), nd.kids.take (j + 1) ++ nd.kids.drop (j + 2)⟩
theorem delAt_rowOf {nd : Nd} {lo k1 k2 : ByteArray} {b1 b2 : Int} {L M : List (ByteArray × Int)} (h : RowOf nd lo (L ++ (k1, b1) :: (k2, b2) :: M)) : RowOf (nd.delAt L.length) lo (L ++ (k1, b1) :: M) ∧ nd.keys[L.length]? = some k2 ∧ nd.kids[L.length]? = some b1 ∧ nd.kids[L.length + 1]? = some b2 := by
  obtain ⟨h1, h2⟩ := h
  have hk : nd.keys = (L.map (·.1) ++ [k1]).drop 1 ++ k2 :: M.map (·.1) := by
    have := congrArg (List.drop 1) h1
    simp only [List.drop_succ_cons, List.drop_zero] at this
    rw [this]
    cases L <;> simp
  have hlen : ((L.map (·.1) ++ [k1]).drop 1).length = L.length := by simp
  have hD : lo :: (L.map (·.1) ++ [k1]).drop 1 = L.map (·.1) ++ [k1] := by
    cases L with
    | nil => simp only [List.nil_append, List.map_cons, List.cons.injEq] at h1; simp [h1.1]
    | cons l L => simp only [List.cons_append, List.map_cons, List.cons.injEq] at h1; simp [h1.1]
  generalize (L.map (·.1) ++ [k1]).drop 1 = D at hk hlen hD
  refine ⟨⟨?_, ?_⟩, ?_, ?_, ?_⟩
  · have h3 : (nd.delAt L.length).keys = D ++ M.map (·.1) := by
      simp only [Nd.delAt, hk]
      rw [List.take_append_of_le_length (by omega), List.take_of_length_le (by omega), List.drop_append, List.drop_of_length_le (by omega), hlen]
      simp
    rw [h3, ← List.cons_append, hD]
    simp
  · simp only [Nd.delAt, h2, List.map_append, List.map_cons]
    rw [List.take_append, List.drop_append]
    simp
    rw [List.take_of_length_le (by simp), List.drop_of_length_le (by simp)]
    simp
  · rw [hk, List.getElem?_append_right (by omega), hlen]; simp
  · rw [h2]; simp
  · rw [h2]; simp

/-- what join leaves, where it joined -/
theorem join_row {σ σ2 σ3 : MSt} {h : Nat} {hi : Option ByteArray} {R : List (ByteArray × Int)} {j : Nat} {cs : List Pr} {bs : List Int} {L : List (ByteArray × Int)} {k1 : ByteArray} {b1 : Int} {k2 : ByteArray} {b2 : Int} {M : List (ByteArray × Int)} {cl ca cb cm : List Pr} {bl xa xb bm : List Int} {m1 m2 : Nat} {A B : Nd} {ps : List Pc} {zs : List (ByteArray × Nd)}
    (hP : PairAt σ h hi R j cs bs L k1 b1 k2 b2 M cl ca cb cm bl (b1 :: xa) (b2 :: xb) bm m1 m2) (okA : A.Ok) (okB : B.Ok) (fA : A.Fits) (fB : B.Fits) (nA : NdRow σ h k1 (some k2) A ca xa) (nB : NdRow σ h k2 (nextLo M hi) B cb xb) (kA : Kids h m1 A) (kB : Kids h m2 B) (na : ca ≠ []) (nb : cb ≠ []) (hk2 : k2.size ≤ 128)
    (hc : Chg σ σ2 [b1, b2] []) (hcl : Cln σ2) (hs : Spr (joinNd A B k2) ⟨#[]⟩ zs) (hp : Puts σ2 ps zs σ3) (hn : bs.Nodup) :
    ∃ xs, RowL (TrM σ3 h 2) hi (L ++ pcRow k1 ps ++ M) cs (bl ++ (xs ++ bm)) ∧ Chg σ σ3 bs (bl ++ (xs ++ bm)) ∧ ps ≠ [] ∧ (∀ p ∈ ps, p.2.size ≤ 128) ∧ ps.length ≤ 510 := by
  obtain ⟨hrow, hlen, hl, ha, hb, hm, rfl, rfl, h12⟩ := hP
  have hall : ∀ x ∈ bl ++ (b1 :: xa ++ (b2 :: xb ++ bm)), σ.hasB x = true := by
    intro x hx
    simp only [List.mem_append] at hx
    rcases hx with hx | hx | hx | hx
    · exact RowL.has (fun _ _ _ _ _ ht => TrM.has ht) hl x hx
    · exact ha.has x hx
    · exact hb.has x hx
    · exact RowL.has (fun _ _ _ _ _ ht => TrM.has ht) hm x hx
  have hperm : (bl ++ (b1 :: xa ++ (b2 :: xb ++ bm))).Perm ([b1, b2] ++ (bl ++ ((xa ++ xb) ++ bm))) := by
    have e1 : (b1 :: xa ++ (b2 :: xb ++ bm)).Perm ([b1, b2] ++ ((xa ++ xb) ++ bm)) := by
      show (b1 :: (xa ++ b2 :: (xb ++ bm))).Perm (b1 :: b2 :: ((xa ++ xb) ++ bm))
      refine List.Perm.cons _ ?_
      rw [List.append_assoc]
      exact List.perm_middle
    exact (List.Perm.append_left bl e1).trans (List.perm_append_comm_assoc _ _ _)
  have hn2 := hperm.nodup_iff.1 hn
  have hrest : ∀ x ∈ bl ++ ((xa ++ xb) ++ bm), σ.hasB x = true := fun x hx => hall x (hperm.mem_iff.2 (List.mem_append_right _ hx))
  have c1 := hc.left hn2 hrest
  have hdis : ∀ x ∈ bl ++ ((xa ++ xb) ++ bm), x ∉ [b1, b2] := fun x hx hy => (List.nodup_append.1 hn2).2.2 x hy x hx rfl
  have mA : NdRow σ2 h k1 (some k2) A ca xa := by
    cases h with
    | zero => exact nA
    | succ h => exact ⟨nA.1, nA.2.keep hc fun x hx => hdis x (by simp [hx])⟩
  have mB : NdRow σ2 h k2 (nextLo M hi) B cb xb := by
    cases h with
    | zero => exact nB
    | succ h => exact ⟨nB.1, nB.2.keep hc fun x hx => hdis x (by simp [hx])⟩
  obtain ⟨nJ, okJ, lJ, lJ2⟩ := join_node okA okB mA mB na nb hk2 fA fB
  have hn3 : (bl ++ ((xa ++ xb) ++ bm)).Nodup := (List.nodup_append.1 hn2).2.1
  have hn4 := hn3
  rw [← List.append_assoc] at hn4
  have hxx : (xa ++ xb).Nodup := (List.nodup_append.1 (List.nodup_append.1 hn3).2.1).1
  have has2 : ∀ x ∈ bl ++ ((xa ++ xb) ++ bm), σ2.hasB x = true := fun x hx => (hc.frame x (hrest x hx) (.inl (hdis x hx))).1
  obtain ⟨xs, q1, q2⟩ := spread_row hs (m := 2) okJ nJ hp hcl (Nat.le_refl 2) (by
    rcases kA with rfl | kA
    · exact .inl rfl
    · rcases kB with rfl | kB
      · exact .inl rfl
      · exact .inr (by rw [lJ]; omega)) hxx (fun x hx => has2 x (by simp only [List.mem_append] at hx ⊢; exact .inr (.inl hx)))
  have c2 := q2.mid (ls := bl) (rs := bm) hn4 (fun x hx => has2 x (by simp [hx])) (fun x hx => has2 x (by simp [hx]))
  have c12 := c1.trans (c2.perm (by rw [List.append_assoc]; exact List.Perm.refl _) (List.Perm.refl _))
  have hne : ps ≠ [] := fun e => by
    subst e
    have := q1.1
    simp at this
    exact na this.1
  obtain ⟨p, r, rfl⟩ := List.exists_cons_of_ne_nil hne
  have hdl : ∀ x ∈ bl, x ∉ xa ++ xb := fun x hx hy => (List.nodup_append.1 hn3).2.2 x hx x (List.mem_append_left _ hy) rfl
  have hdm : ∀ x ∈ bm, x ∉ xa ++ xb := fun x hx hy => (List.nodup_append.1 (List.nodup_append.1 hn3).2.1).2.2 x hy x hx rfl
  have hm3 : RowL (TrM σ3 h 2) hi M cm bm := (hm.keep hc fun x hx => hdis x (by simp [hx])).keep q2 hdm
  have hl3 : RowL (TrM σ3 h 2) (some k1) L cl bl := (hl.keep hc fun x hx => hdis x (by simp [hx])).keep q2 hdl
  refine ⟨xs, ?_, (c12.perm hperm.symm (by rw [List.append_assoc])), by simp, ?_, ?_⟩
  · have e1 := RowL.append hm3 q1
    have e2 := RowL.append e1 (l := L) hl3
    rw [List.append_assoc L, ← List.append_assoc ca cb cm]
    exact e2
  · exact hp.keys (hs.keys okJ (Nat.zero_le _))
  · have e1 := hs.room okJ
    have e2 := hp.length.1
    have a1 := fA.np; have a2 := fB.np; have a3 := fA.nk; have a4 := fB.nk
    unfold Nd.room at e1
    rw [lJ2, lJ] at e1
    rw [e2]
    by_cases hk : (joinNd A B k2).kids = []
    · rw [if_pos hk] at e1; omega
    · have h0 := okJ.one hk
      have h1 := congrArg List.length h0
      rw [lJ2] at h1
      simp only [List.length_nil] at h1
      rw [if_neg hk] at e1; omega
end Go.Proofs.YtbldcbakhpdigaaGreat

/- join: the walk. -/
namespace Go.Proofs.YtbldcbakhpdigaaGreat
open Go.RowKit

set_option maxRecDepth 100000 in
set_option maxHeartbeats 4000000 in
/-- nothing to join -/
theorem join_skip (t nb : Nat) (nd : Nd) (i : Nat) (deep : Int) (w : World) (S : Nat → Prop) (hn : IsNode w S nb nd) (hs : nd.kids.length < 2 ∨ nd.kids.length ≤ i) :
    Calls Tryz.prog 50 #[.pointer (some ⟨t, 0, none⟩), .pointer (some ⟨nb, 0, none⟩), .int .i64 i, .int .i64 deep] w fun e w' => e = .returned (.tuple #[]) ∧ w' = w := by
  obtain ⟨_, v0, v1, v2, hb, h0, h1, h2⟩ := hn
  obtain ⟨c0, c1, c2, _, _, _, hlt⟩ := cells3 hb
  obtain ⟨ao2, cp2, rfl, n2, m2, _, _⟩ := IsSl.form h2
  by_cases h : nd.kids.length < 2
  · have x1 : (nd.kids.length : Int) < 2 := by omega
    go_enter Tryz.func50, Tryz.ntmps50
    go_wp2
    refine bodyPost_ret (results_none rfl _ _ _) rfl ?_
    exact ⟨rfl, rfl⟩
  · have x1 : ¬ (nd.kids.length : Int) < 2 := by omega
    have x2 : (nd.kids.length : Int) ≤ (i : Int) := by omega
    have x3 : nd.kids.length ≤ i := by omega
    go_enter Tryz.func50, Tryz.ntmps50
    go_wp2
    refine bodyPost_ret (results_none rfl _ _ _) rfl ?_
    exact ⟨rfl, rfl⟩

theorem one_ints (l : List Int) : ∀ u ∈ l.map (Value.int .i64), u.oneCell' = true := by
  intro u hu
  obtain ⟨p, _, rfl⟩ := List.mem_map.1 hu
  rfl

/-- what the walk of join reads: the tree, the node, the two kids -/
def SJ (t mp nb pb po j n cp : Nat) (root err b1 b2 : Int) (v0 v1 : Value) (W : World) : Prop :=
  TreeAt W t mp root err ∧ W.heap[nb]? = some (.cells #[v0, v1, .slice (some ⟨pb, po, none⟩) n cp] 74 (0, 0)) ∧ W.cell? ⟨pb, po + j, none⟩ = some (.int .i64 b1) ∧ W.cell? ⟨pb, po + (j + 1), none⟩ = some (.int .i64 b2)
theorem SJ.step {t mp nb pb po j n cp : Nat} {root err b1 b2 : Int} {v0 v1 : Value} {W W' : World} {S S' : Nat → Prop} (h : SJ t mp nb pb po j n cp root err b1 b2 v0 v1 W) (hs : Step S S' W W') (h1 : ¬ S t) (h2 : ¬ S nb) (h3 : ¬ S pb) : SJ t mp nb pb po j n cp root err b1 b2 v0 v1 W' := by
  obtain ⟨q1, q2, q3, q4⟩ := h
  have l3 := World.block_lt_of_cell? W _ q3
  exact ⟨(q1.step h1 hs).1, (hs.1.block nb (Array.getElem?_eq_some_iff.1 q2).1 h2).trans q2, (World.cell?_of_block (w := W) (a := ⟨pb, po + j, none⟩) (hs.1.block pb l3 h3)).trans q3, (World.cell?_of_block (w := W) (a := ⟨pb, po + (j + 1), none⟩) (hs.1.block pb l3 h3)).trans q4⟩
theorem SJ.cells {t mp nb pb po j n cp : Nat} {root err b1 b2 : Int} {v0 v1 : Value} {W : World} (h : SJ t mp nb pb po j n cp root err b1 b2 v0 v1 W) :
    W.cell? ⟨t, 0, none⟩ = some (.iface 24 (.pointer (some ⟨mp, 0, none⟩))) ∧ t < W.heap.size ∧ W.cell? ⟨nb, 2, none⟩ = some (.slice (some ⟨pb, po, none⟩) n cp) ∧ nb < W.heap.size ∧ W.cell? ⟨pb, po + j, none⟩ = some (.int .i64 b1) ∧ W.cell? ⟨pb, po + (j + 1), none⟩ = some (.int .i64 b2) ∧ pb < W.heap.size := by
  obtain ⟨q1, q2, q3, q4⟩ := h
  obtain ⟨c0, _, _, _, _, _, hl⟩ := cells3 q1
  obtain ⟨_, _, c2, _, _, _, hl2⟩ := cells3 q2
  exact ⟨c0, hl, c2, hl2, q3, q4, World.block_lt_of_cell? W _ q3⟩

theorem node_setKeys {W : World} {S : Nat → Prop} {b : Nat} {ps : List Pr} {ks' : List ByteArray} {ns : List Int} {v0 v1 v2 v' : Value} (hb : W.heap[b]? = some (.cells #[v0, v1, v2] 74 (0, 0))) (hS : ¬ S b) (h0 : IsPrs W S v0 ps) (h2 : IsInts W S v2 ns) (h0b : v0.ownBlock ≠ some b) (h2b : v2.ownBlock ≠ some b) (hv : IsStrs W S v' ks') (hvb : v'.ownBlock ≠ some b) : IsNode (W.setCell ⟨b, 1, none⟩ v') S b ⟨ps, ks', ns⟩ := by
  have hk : Keep (· = b) W (W.setCell ⟨b, 1, none⟩ v') := Keep.setCell (M := (· = b)) (p := ⟨b, 1, none⟩) (Keep.refl _ _) (.inr rfl) _
  refine ⟨hS, v0, v', v2, by simp [World.setCell, Array.getElem?_modify, hb], IsSl.keep h0 fun g hg hl hs => ⟨hk.block g hl (fun e => h0b (by rw [hg, e])), hs⟩, IsSl.keep hv fun g hg hl hs => ⟨hk.block g hl (fun e => hvb (by rw [hg, e])), hs⟩, IsSl.keep h2 fun g hg hl hs => ⟨hk.block g hl (fun e => h2b (by rw [hg, e])), hs⟩⟩

/-- strings do not lie in a node's own block -/
theorem strs_ne {W : World} {S : Nat → Prop} {b : Nat} {ao0 ao1 ao2 : Option Addr} {x0 x1 x2 y0 y1 y2 : Nat} {ks : List ByteArray} (hb : W.heap[b]? = some (.cells #[.slice ao0 x0 y0, .slice ao1 x1 y1, .slice ao2 x2 y2] 74 (0, 0))) (h : IsStrs W S (.slice ao1 x1 y1) ks) (hk : 0 < ks.length) : (Value.slice ao1 x1 y1).ownBlock ≠ some b := by
  obtain ⟨ao, c, e, _, _, _, _, _, h6⟩ := h
  cases e
  obtain ⟨b', o, rfl, hc⟩ := h6 0 (.string ks[0]) (by simp [hk])
  intro e
  cases e
  rw [Nat.add_zero] at hc
  rcases o with _ | _ | _ | o <;> simp [World.cell?, hb] at hc

def JoinPost (mp : Nat) (σ : MSt) (S : Nat → Prop) (nb : Nat) (nd A B : Nd) (k2 : ByteArray) (b1 b2 : Int) (j : Nat) (w : World) (e : Ending) (w' : World) : Prop :=
  e = .returned (.tuple #[]) ∧ ∃ σ' S' nd', Inv σ' S' mp w' ∧ IsNode w' S' nb nd' ∧ Keep (fun g => S g ∨ g = nb) w w' ∧ (∀ g, S' g → S g ∨ w.heap.size ≤ g) ∧
    ((512 < (joinNd A B k2).size ∧ A.kids.length ≠ 1 ∧ B.kids.length ≠ 1 ∧ σ' = σ ∧ nd' = nd) ∨ ∃ ps zs, Spr (joinNd A B k2) ⟨#[]⟩ zs ∧ Puts ((σ.gone b1).gone b2) ps zs σ' ∧ nd' = (nd.delAt j).repl j ps)

set_option maxRecDepth 100000 in
set_option maxHeartbeats 8000000 in
theorem join_any (t mp : Nat) (root err : Int) (σ : MSt) (S : Nat → Prop) (nb : Nat) (nd A B : Nd) (k2 : ByteArray) (i j : Nat) (deep b1 b2 : Int) (w : World) (h : Inv σ S mp w) (ht : TreeAt w t mp root err) (hst : ¬ S t) (hn : IsNode w S nb nd) (h2 : 2 ≤ nd.kids.length) (hi : i < nd.kids.length) (hj : j = min i (nd.kids.length - 2)) (hk1 : nd.kids[j]? = some b1) (hk2 : nd.kids[j + 1]? = some b2) (hkey : nd.keys[j]? = some k2)
    (hp : nd.pairs = []) (hkk : nd.keys.length = nd.kids.length - 1) (hA : Blk σ b1 A) (hB : Blk σ b2 B) (hB2 : (σ.gone b1).hasB b2 = true) (okJ : (joinNd A B k2).Ok) (hd : deep ≤ 40) (hl : nd.kids.length ≤ 2000) (hroom : Maps.size ((σ.gone b1).gone b2).D + (joinNd A B k2).room ≤ ((σ.gone b1).gone b2).most) :
    Calls Tryz.prog 50 #[.pointer (some ⟨t, 0, none⟩), .pointer (some ⟨nb, 0, none⟩), .int .i64 i, .int .i64 deep] w (JoinPost mp σ S nb nd A B k2 b1 b2 j w) := by
  have hN := hn
  obtain ⟨hSb, v0, v1, v2, hb, h0, h1, h22⟩ := hn
  obtain ⟨c0, c1, c2, _, _, _, hlt⟩ := cells3 hb
  obtain ⟨ao2, cp2, rfl, n2, m2, _, _⟩ := IsSl.form h22
  obtain ⟨hj1, hj1'⟩ := List.getElem?_eq_some_iff.1 hk1
  obtain ⟨hj2, hj2'⟩ := List.getElem?_eq_some_iff.1 hk2
  obtain ⟨pb, po, rfl, d1⟩ := h22.at rfl j hj1
  obtain ⟨_, _, e', d2⟩ := h22.at rfl (j + 1) hj2
  cases e'
  rw [hj1'] at d1
  rw [hj2'] at d2
  have hpb : pb < w.heap.size := World.block_lt_of_cell? w _ d1
  have hSp : ¬ S pb := by
    obtain ⟨_, _, e, _, _, _, _, h5, _⟩ := h22
    cases e
    exact (h5 _ rfl).2.2
  have hSJ : SJ t mp nb pb po j nd.kids.length cp2 root err b1 b2 v0 v1 w := ⟨ht, hb, d1, d2⟩
  have HSJ := Lib.hid hSJ
  have HK := Lib.hid hkey
  have HP := Lib.hid hp
  have HKK := Lib.hid hkk
  have HR := Lib.hid hroom
  have HN := Lib.hid hN
  have HB2 := Lib.hid hB2
  have HJ := Lib.hid hj
  have hj3 : j + 2 ≤ nd.kids.length := by omega
  have x4 : min (i : Int) ((nd.kids.length : Int) - 2) = (j : Int) := by omega
  have HX4 := Lib.hid x4
  have HD1 := Lib.hid hk1
  have HD2 := Lib.hid hk2
  clear hk1 hk2 hj1' hj2' hSJ hkey hp hkk hroom hN hB2 hb d1 d2 hj hj1 hj2 c0 c1 x4
  have x1 : ¬ (nd.kids.length : Int) < 2 := by omega
  have x2 : ¬ (nd.kids.length : Int) ≤ (i : Int) := by omega
  have x3 : ¬ nd.kids.length ≤ i := by omega
  go_enter Tryz.func50, Tryz.ntmps50
  go_upto_region 1 with fail
  go_cut [2] from 13 to 196 (fun x wx => x = .int .i64 j ∧ w = wx)
  case first =>
    go_wp2_with fail
    all_goals
      go_meet
      refine ⟨?_, rfl⟩
      have := HX4.out
      congr 1
      omega
  case rest =>
    obtain ⟨rfl, rfl⟩ := hcut
    obtain ⟨y0, y1, y2, y3, y4, y5, y6⟩ := HSJ.out.cells
    have HA := Lib.hid hA
    have HB := Lib.hid hB
    have hj4 : (j : Int) + 2 ≤ (nd.kids.length : Int) := by omega
    have HI := Lib.hid h
    have HT := Lib.hid ht
    clear hA hB h ht c2
    go_wp2_with (first
      | (go_at_call 23; go_must ((refine (load_any t mp root err b1 deep σ S A w HI.out HT.out HA.out hd).mono ?_); rintro e w1 ⟨na, rfl, hnA, hb1⟩; refine Stop.of ?_)))
    refine Stop.on ?_
    have HI1 := Lib.hid (HI.out.below hb1)
    obtain ⟨y0, y1, y2, y3, y4, y5, y6⟩ := (HSJ.out.step (Step.of_below (S := S) hb1) hst hSb hSp).cells
    go_wp2_with (first
      | (go_at_call 47; go_must ((refine (must_ok _).mono ?_); rintro e w2 ⟨rfl, hw⟩; subst w2))
      | (go_at_call 23; go_must ((refine (load_any t mp root err b2 deep σ S B w1 HI1.out ((HT.out).step hst (Step.of_below (S := S) hb1)).1 HB.out hd).mono ?_); rintro e w2 ⟨nbb, rfl, hnB, hb2⟩; refine Stop.of ?_)))
    refine Stop.on ?_
    have hbw2 : Below w.heap.size w w2 := hb1.trans (hb2.mono hb1.size)
    have HI2 := Lib.hid (HI.out.below hbw2)
    have hsj2 := Lib.hid (HSJ.out.step (Step.of_below (S := S) hbw2) hst hSb hSp)
    have hA2 := hnA.isNode.below hb2
    have hB2' := hnB.isNode
    have HA2 := Lib.hid hA2
    have HB2' := Lib.hid hB2'
    obtain ⟨hSA, a0, a1, a2, bA, A0, A1, A2⟩ := hA2
    obtain ⟨hSB, g0, g1, g2, bB, B0, B1, B2⟩ := hB2'
    have hnaw : w.heap.size ≤ na := hnA.2.1
    obtain ⟨e0, e1, e2, _, _, _, lna⟩ := cells3 bA
    obtain ⟨f0, f1, f2, _, _, _, lnb⟩ := cells3 bB
    clear y0 y1 y2 y3 y4 y5 y6 bA bB hnA hnB
    go_wp2_with (first
      | (go_at_call 47; go_must ((refine (must_ok _).mono ?_); rintro e w3 ⟨rfl, hw⟩; subst w3)))
    have hsub2 := HI2.out.sub
    have la := HA.out.fits.np
    have lb := HB.out.fits.np
    have ka := HA.out.fits.nk
    have kb := HB.out.fits.nk
    refine wp_region_ord (fun W => Below w2.heap.size w2 W) (fun i => !([4, 9, 14, 19, 21].contains i)) [0, 1, 2, 3, 5, 6, 7, 8, 10, 11, 12, 13, 15, 16, 17, 18, 4, 9, 14, 19, 20, 21, 22] rfl (by kernel_rfl) ((Below.refl _ w2).drew) ?_
    repeat ((refine ord_q (v := ?_) rfl rfl (fun _ _ _ h => h) rfl (fun W hW => ?_) ?_); rotate_left; (focus ((try dsimp only at hW); have q0 := (hW.cell (p := ⟨na, 0, none⟩) lna).trans e0; have q1 := (hW.cell (p := ⟨na, 1, none⟩) lna).trans e1; have q2 := (hW.cell (p := ⟨na, 2, none⟩) lna).trans e2; have q3 := (hW.cell (p := ⟨nbb, 0, none⟩) lnb).trans f0; have q4 := (hW.cell (p := ⟨nbb, 1, none⟩) lnb).trans f1; have q5 := (hW.cell (p := ⟨nbb, 2, none⟩) lnb).trans f2; have q6 := Nat.lt_of_lt_of_le lna hW.size; have q7 := Nat.lt_of_lt_of_le lnb hW.size; first | (go_simp; first | done | with_reducible rfl))); (try simp only [Act.put, List.setIfInBounds_toArray, List.set_cons_zero, List.set_cons_succ]))
    have hbd : Below w2.heap.size w2 w2.drew := (Below.refl _ w2).drew
    have hC1 := clonePair_any a0 A.pairs.length (prCells A.pairs) w2.drew S hsub2 (IsSl.below A0 hbd) (one_prs _) (by omega)
    have HC1 := Lib.hid hC1; clear hC1
    refine ord_e rfl rfl rfl ?_; intro K hK; go_simp
    refine HC1.out.mono ?_; rintro e w3 ⟨u0, rfl, hu0, hb3⟩
    have hb23 : Below w2.heap.size w2 w3 := hbd.trans hb3
    refine hK.out _ _ hb23 ?_
    (try simp only [Act.put, List.setIfInBounds_toArray, List.set_cons_zero, List.set_cons_succ])
    refine ord_e rfl rfl rfl ?_; intro K hK
    refine wp_app (.tmp 71) (.tmp 75) 29 29 rfl S w2.heap.size 53 2 32 _ Tryz.underlying29 info_pair rfl u0 A.pairs.length (prCells A.pairs) rfl hu0 g0 B.pairs.length (prCells B.pairs) rfl ((IsSl.below B0 hb23).src Tryz.underlying29 (one_prs _)) (fun g hg => Nat.lt_of_lt_of_le (hsub2 g hg) hb23.size) hb23.size (by unfold maxLen; omega) (by omega) ?_
    intro ao4 c4 w4 hown4 hk4 hb4 hd4
    have hb24 : Below w2.heap.size w2 w4 := hb23.trans hb4
    refine hK.out _ _ hb24 ?_
    (try simp only [Act.put, List.setIfInBounds_toArray, List.set_cons_zero, List.set_cons_succ])
    have hC2 := cloneInt_any a2 A.kids.length (A.kids.map (.int .i64)) w4 S (fun g hg => Nat.lt_of_lt_of_le (hsub2 g hg) hb24.size) (IsSl.below A2 hb24) (one_ints _) (by omega)
    have HC2 := Lib.hid hC2; clear hC2
    refine ord_e rfl rfl rfl ?_; intro K hK; go_simp
    refine HC2.out.mono ?_; rintro e w5 ⟨u2, rfl, hu2, hb5⟩
    have hb25 : Below w2.heap.size w2 w5 := hb24.trans (hb5.mono hb24.size)
    refine hK.out _ _ hb25 ?_
    (try simp only [Act.put, List.setIfInBounds_toArray, List.set_cons_zero, List.set_cons_succ])
    refine ord_e rfl rfl rfl ?_; intro K hK
    refine wp_app (.tmp 81) (.tmp 85) 36 36 rfl S w2.heap.size 3 1 8 _ Tryz.underlying36 info_int rfl u2 A.kids.length (A.kids.map (.int .i64)) rfl (hu2.base hb24.size) g2 B.kids.length (B.kids.map (.int .i64)) rfl ((IsSl.below B2 hb25).src Tryz.underlying36 (one_ints _)) (fun g hg => Nat.lt_of_lt_of_le (hsub2 g hg) hb25.size) hb25.size (by unfold maxLen; omega) (by omega) ?_
    intro ao6 c6 w6 hown6 hk6 hb6 hd6
    have hb26 : Below w2.heap.size w2 w6 := hb25.trans hb6
    refine hK.out _ _ hb26 ?_
    (try simp only [Act.put, List.setIfInBounds_toArray, List.set_cons_zero, List.set_cons_succ])
    repeat ((refine ord_q (v := ?_) rfl rfl (fun _ _ _ h => h) rfl (fun W hW => ?_) ?_); rotate_left; (focus ((try dsimp only at hW); have q0 := (hW.cell (p := ⟨na, 0, none⟩) lna).trans e0; have q1 := (hW.cell (p := ⟨na, 1, none⟩) lna).trans e1; have q2 := (hW.cell (p := ⟨na, 2, none⟩) lna).trans e2; have q3 := (hW.cell (p := ⟨nbb, 0, none⟩) lnb).trans f0; have q4 := (hW.cell (p := ⟨nbb, 1, none⟩) lnb).trans f1; have q5 := (hW.cell (p := ⟨nbb, 2, none⟩) lnb).trans f2; have q6 := Nat.lt_of_lt_of_le lna hW.size; have q7 := Nat.lt_of_lt_of_le lnb hW.size; first | (go_simp; first | done | with_reducible rfl))); (try simp only [Act.put, List.setIfInBounds_toArray, List.set_cons_zero, List.set_cons_succ]))
    refine ord_e rfl rfl rfl ?_; intro K hK; go_simp
    have hb7 := below_one w6 (.cells #[.slice ao4 (A.pairs.length + B.pairs.length) c4, .slice none 0 0, .slice ao6 (A.kids.length + B.kids.length) c6] 74)
    have hb27 : Below w2.heap.size w2 (w6.alloc (.cells #[.slice ao4 (A.pairs.length + B.pairs.length) c4, .slice none 0 0, .slice ao6 (A.kids.length + B.kids.length) c6] 74)) := hb26.trans (hb7.mono hb26.size)
    refine hK.out _ _ hb27 ?_
    (try simp only [Act.put, List.setIfInBounds_toArray, List.set_cons_zero, List.set_cons_succ])
    repeat ((refine ord_q (v := ?_) rfl rfl (fun _ _ _ h => h) rfl (fun W hW => ?_) ?_); rotate_left; (focus ((try dsimp only at hW); have q0 := (hW.cell (p := ⟨na, 0, none⟩) lna).trans e0; have q1 := (hW.cell (p := ⟨na, 1, none⟩) lna).trans e1; have q2 := (hW.cell (p := ⟨na, 2, none⟩) lna).trans e2; have q3 := (hW.cell (p := ⟨nbb, 0, none⟩) lnb).trans f0; have q4 := (hW.cell (p := ⟨nbb, 1, none⟩) lnb).trans f1; have q5 := (hW.cell (p := ⟨nbb, 2, none⟩) lnb).trans f2; have q6 := Nat.lt_of_lt_of_le lna hW.size; have q7 := Nat.lt_of_lt_of_le lnb hW.size; first | (go_simp; first | done | with_reducible rfl))); (try simp only [Act.put, List.setIfInBounds_toArray, List.set_cons_zero, List.set_cons_succ]))
    refine ord_nil ?_
    have hcn : IsNode (w6.alloc (.cells #[.slice ao4 (A.pairs.length + B.pairs.length) c4, .slice none 0 0, .slice ao6 (A.kids.length + B.kids.length) c6] 74)) S w6.heap.size ⟨A.pairs ++ B.pairs, [], A.kids ++ B.kids⟩ := by
      refine ⟨fun hs => absurd (hsub2 _ hs) (Nat.not_lt.2 hb26.size), _, _, _, heap_alloc_new w6 _, ?_, IsSl.nil _ _ _, ?_⟩
      · have q1 := (hown4.below (hb5)).keep (w' := w6) (S' := S) (fun g hg hl hs => ⟨hk6.block g hl (fun e => OwnSl.ne2 (hown4.below hb5) (hu2.base hb24.size) (by decide) g hg e), hs⟩)
        have := (q1.below hb7).isSl
        unfold IsPrs
        rw [List.length_append, prCells_append]
        exact this
      · have := (hown6.below hb7).isSl
        unfold IsInts
        rw [List.length_append, List.map_append]
        exact this
    have hnc : w2.heap.size ≤ w6.heap.size := hb26.size
    have hbC : (w6.alloc (.cells #[.slice ao4 (A.pairs.length + B.pairs.length) c4, .slice none 0 0, .slice ao6 (A.kids.length + B.kids.length) c6] 74)).heap[w6.heap.size]? = some (.cells #[.slice ao4 (A.pairs.length + B.pairs.length) c4, .slice none 0 0, .slice ao6 (A.kids.length + B.kids.length) c6] 74 (0, 0)) := heap_alloc_new w6 _
    have hz0 : (Value.slice ao4 (A.pairs.length + B.pairs.length) c4).ownBlock ≠ some w6.heap.size := hown4.lt' (Nat.le_trans hb5.size hb6.size)
    have hz2 : (Value.slice ao6 (A.kids.length + B.kids.length) c6).ownBlock ≠ some w6.heap.size := hown6.lt' (Nat.le_refl _)
    obtain ⟨_, _, _, _, hbC', hP7, _, hI7⟩ := id hcn
    rw [hbC] at hbC'
    cases hbC'
    clear hown4 hown6 hu0 hu2 hb3 hb4 hb5 hb6 hb7 hk4 hk6 hd4 hd6 hb23 hb24 hb25 hb26 hbd HC1 HC2
    generalize (w6.alloc (.cells #[.slice ao4 (A.pairs.length + B.pairs.length) c4, .slice none 0 0, .slice ao6 (A.kids.length + B.kids.length) c6] 74)) = w7 at hcn hb27 hbC hP7 hI7 ⊢
    generalize w6.heap.size = nc at hcn hnc hbC hz0 hz2 ⊢
    clear K hK
    have hHA7 := HA2.out.below hb27
    go_upto_if 91 with (first
      | (go_at_call 37; go_must ((refine (leaf_any na A _ S hHA7).mono ?_); rintro e w8 ⟨rfl, hw⟩; subst w8)))
    go_cut [] from 13 to 196 (fun wx => IsNode wx S nc (joinNd A B k2) ∧ Below w2.heap.size w2 wx)
    case first =>
      by_cases hAk : A.kids = []
      · have hke : A.kids.isEmpty = true := by rw [hAk]; rfl
        have HAk := Lib.hid hAk; clear hAk
        rw [hke]
        go_wp2_with fail
        go_meet
        refine ⟨?_, hb27⟩
        have : joinNd A B k2 = ⟨A.pairs ++ B.pairs, [], A.kids ++ B.kids⟩ := by unfold joinNd; rw [if_pos HAk.out]
        rw [this]
        exact hcn
      · -- INNER
        have hke : A.kids.isEmpty = false := by cases hq : A.kids with | nil => exact absurd hq hAk | cons a b => rfl
        have hJe : joinNd A B k2 = ⟨A.pairs ++ B.pairs, A.keys ++ [k2] ++ B.keys, A.kids ++ B.kids⟩ := by unfold joinNd; rw [if_neg hAk]
        have HAk := Lib.hid hAk; clear hAk
        rw [hke]
        go_wp2_with fail
        have hcN := hcn
        have bC := hbC
        obtain ⟨_, nc1, _, _, _, _, lnc⟩ := cells3 bC
        have hN7 := HN.out.below (hbw2.trans (hb27.mono hbw2.size))
        obtain ⟨_, nv0, nv1, nv2, bN, _, hn1, _⟩ := hN7
        obtain ⟨_, n1, _, _, _, _, lnn⟩ := cells3 bN
        obtain ⟨kao, kcp, rfl, km0, km1, _, _⟩ := IsSl.form hn1
        obtain ⟨kb0, ko0, rfl, nk1⟩ := IsSl.at1 hn1 rfl j (.string k2) (by rw [List.getElem?_map, HK.out]; rfl)
        have lkk := World.block_lt_of_cell? w7 _ nk1
        have hkj : (j : Int) < (nd.keys.length : Int) := by have := HKK.out; omega
        have hbd : Below w7.heap.size w7 w7.drew := (Below.refl _ w7).drew
        have hsub7 : ∀ g, S g → g < w7.heap.size := fun g hg => Nat.lt_of_lt_of_le (hsub2 g hg) hb27.size
        have lak : A.keys.length ≤ 1000000 := by have := HA.out.fits.kk; omega
        have lbk : B.keys.length ≤ 1000000 := by have := HB.out.fits.kk; omega
        have e1 := (hb27.cell (p := ⟨na, 1, none⟩) lna).trans e1
        have f1 := (hb27.cell (p := ⟨nbb, 1, none⟩) lnb).trans f1
        have lna := Nat.lt_of_lt_of_le lna hb27.size
        have lnb := Nat.lt_of_lt_of_le lnb hb27.size
        have hC3 := cloneStr_any a1 A.keys.length (A.keys.map .string) w7.drew S hsub7 (IsSl.below (IsSl.below A1 hb27) hbd) (one_strs _) lak
        have HC3 := Lib.hid hC3; clear hC3
        refine wp_region_fork (fun W => Below w7.heap.size w7 W) (fun i => !([5, 13, 14, 19, 22].contains i)) [0, 1, 2, 3, 4, 6, 7, 8, 9, 10, 11, 12, 15, 16, 17, 18] 5 13 [13, 14, 19, 20, 21, 22] [5, 14, 19, 20, 21, 22] rfl (by kernel_rfl) hbd ?_
        repeat ((refine ordK_q (v := ?_) rfl rfl (fun _ _ _ h => h) rfl (fun W hW => ?_) ?_); rotate_left; (focus ((try dsimp only at hW); have q0 := (hW.cell (p := ⟨na, 1, none⟩) lna).trans e1; have q1 := (hW.cell (p := ⟨nbb, 1, none⟩) lnb).trans f1; have q2 := Nat.lt_of_lt_of_le lna hW.size; have q3 := Nat.lt_of_lt_of_le lnb hW.size; have q4 := (hW.cell (p := ⟨nb, 1, none⟩) lnn).trans n1; have q5 := Nat.lt_of_lt_of_le lnn hW.size; have q6 := (hW.cell (p := ⟨kb0, ko0 + j, none⟩) lkk).trans nk1; have q7 := Nat.lt_of_lt_of_le lkk hW.size; have q8 := (hW.cell (p := ⟨nc, 1, none⟩) lnc).trans nc1; have q9 := Nat.lt_of_lt_of_le lnc hW.size; first | (go_simp; first | done | with_reducible rfl))); (try simp only [Act.put, List.setIfInBounds_toArray, List.set_cons_zero, List.set_cons_succ]))
        refine ordK_nil (fork_two rfl rfl rfl rfl ?_ ?_)
        · skip
          intro K hK; go_simp
          refine HC3.out.mono ?_; rintro e w9 ⟨u1, rfl, hu1, hb9⟩
          have hb79 : Below w7.heap.size w7 w9 := hbd.trans hb9
          refine hK.out _ _ hb79 ?_
          (try simp only [Act.put, List.setIfInBounds_toArray, List.set_cons_zero, List.set_cons_succ])
          refine ord_e rfl rfl rfl ?_; intro K hK; go_simp
          have hb10 := below_one w9 (.cells #[.string k2] 9)
          have hb710 : Below w7.heap.size w7 (w9.alloc (.cells #[.string k2] 9)) := hb79.trans (hb10.mono hb79.size)
          refine hK.out _ _ hb710 ?_
          (try simp only [Act.put, List.setIfInBounds_toArray, List.set_cons_zero, List.set_cons_succ])
          have hown := (hu1.below hb10)
          have hsrc : Src Tryz.prog 1 72 (.slice (some ⟨w9.heap.size, 0, none⟩) 1 1) 1 [.string k2] (w9.alloc (.cells #[.string k2] 9)) := src_new (w := w9) [.string k2] 9 1 1 1 rfl Tryz.underlying72 rfl (by intro u hu; rw [List.mem_singleton.1 hu]; rfl)
          generalize w9.alloc (.cells #[.string k2] 9) = w10 at hb710 hown hsrc ⊢
          generalize w9.heap.size = kb9 at hsrc ⊢
          refine ord_e rfl rfl rfl ?_; intro K hK
          refine wp_app (.tmp 97) (.tmp 105) 72 72 rfl S w7.heap.size 9 1 16 _ Tryz.underlying72 info_str rfl u1 A.keys.length (A.keys.map .string) rfl hown (.slice (some ⟨kb9, 0, none⟩) 1 1) 1 [.string k2] rfl hsrc (fun g hg => Nat.lt_of_lt_of_le (hsub7 g hg) hb710.size) hb710.size (by unfold maxLen; omega) (by omega) ?_
          intro ao11 c11 w11 hown11 hk11 hb11 hd11
          have hb711 : Below w7.heap.size w7 w11 := hb710.trans hb11
          refine hK.out _ _ hb711 ?_
          (try simp only [Act.put, List.setIfInBounds_toArray, List.set_cons_zero, List.set_cons_succ])
          refine ord_e rfl rfl rfl ?_; intro K hK
          refine wp_app (.tmp 106) (.tmp 110) 72 72 rfl S w7.heap.size 9 1 16 _ Tryz.underlying72 info_str rfl (.slice ao11 (A.keys.length + 1) c11) (A.keys.length + 1) _ rfl hown11 g1 B.keys.length (B.keys.map .string) rfl ((IsSl.below (IsSl.below B1 hb27) hb711).src Tryz.underlying72 (one_strs _)) (fun g hg => Nat.lt_of_lt_of_le (hsub7 g hg) hb711.size) hb711.size (by unfold maxLen; omega) (by omega) ?_
          intro ao12 c12 w12 hown12 hk12 hb12 hd12
          have hb712 : Below w7.heap.size w7 w12 := hb711.trans hb12
          refine hK.out _ _ hb712 ?_
          (try simp only [Act.put, List.setIfInBounds_toArray, List.set_cons_zero, List.set_cons_succ])
          repeat ((refine ord_q (v := ?_) rfl rfl (fun _ _ _ h => h) rfl (fun W hW => ?_) ?_); rotate_left; (focus ((try dsimp only at hW); have q0 := (hW.cell (p := ⟨na, 1, none⟩) lna).trans e1; have q1 := (hW.cell (p := ⟨nbb, 1, none⟩) lnb).trans f1; have q2 := Nat.lt_of_lt_of_le lna hW.size; have q3 := Nat.lt_of_lt_of_le lnb hW.size; have q4 := (hW.cell (p := ⟨nb, 1, none⟩) lnn).trans n1; have q5 := Nat.lt_of_lt_of_le lnn hW.size; have q6 := (hW.cell (p := ⟨kb0, ko0 + j, none⟩) lkk).trans nk1; have q7 := Nat.lt_of_lt_of_le lkk hW.size; have q8 := (hW.cell (p := ⟨nc, 1, none⟩) lnc).trans nc1; have q9 := Nat.lt_of_lt_of_le lnc hW.size; first | (go_simp; first | done | with_reducible rfl))); (try simp only [Act.put, List.setIfInBounds_toArray, List.set_cons_zero, List.set_cons_succ]))
          have hnc12 := (hb712.block nc lnc).trans bC
          obtain ⟨_, m1, _, _, mf, _, lm⟩ := cells3 hnc12
          refine ord_l rfl rfl rfl (by kernel_rfl) ?_; intro K hK; go_simp
          refine hK.out _ _ ?_
          refine ord_nil ?_
          go_wp2_with fail
          go_meet
          refine ⟨?_, hb27.trans ((hb712.mono hb27.size).setCell hnc _)⟩
          rw [hJe]
          exact node_setKeys hnc12 (fun hs => absurd (hsub2 _ hs) (Nat.not_lt.2 hnc)) (IsSl.below hP7 hb712) (IsSl.below hI7 hb712) hz0 hz2 (by
            have := hown12.isSl
            rw [show A.keys.map Value.string ++ [Value.string k2] ++ B.keys.map Value.string = (A.keys ++ [k2] ++ B.keys).map Value.string from by simp] at this
            unfold IsStrs
            rw [show (A.keys ++ [k2] ++ B.keys).length = A.keys.length + 1 + B.keys.length from by rw [List.length_append, List.length_append, List.length_singleton]]
            exact this) (hown12.ne hnc12 (by decide)) 
        · skip
          intro K hK; go_simp
          have hb79 : Below w7.heap.size w7 (w7.alloc (.cells #[.string k2] 9)).drew := (below_one w7 (.cells #[.string k2] 9)).drew
          refine hK.out _ _ hb79 ?_
          (try simp only [Act.put, List.setIfInBounds_toArray, List.set_cons_zero, List.set_cons_succ])
          have hown0 := (own_new (w := w7) (S := S) (B := w7.heap.size) (e := 9) (k := 1) [.string k2] 1 1 rfl rfl (Nat.le_refl _) (by simp [maxLen]) (Nat.le_refl _) hsub7).drew
          generalize (w7.alloc (.cells #[.string k2] 9)).drew = w9 at hb79 hown0 ⊢
          have hC4 := cloneStr_any a1 A.keys.length (A.keys.map .string) w9 S (fun g hg => Nat.lt_of_lt_of_le (hsub7 g hg) hb79.size) (IsSl.below (IsSl.below A1 hb27) hb79) (one_strs _) lak
          have HC4 := Lib.hid hC4; clear hC4
          refine ord_e rfl rfl rfl ?_; intro K hK; go_simp
          refine HC4.out.mono ?_; rintro e w10 ⟨u1, rfl, hu1, hb10⟩
          have hb710 : Below w7.heap.size w7 w10 := hb79.trans (hb10.mono hb79.size)
          refine hK.out _ _ hb710 ?_
          (try simp only [Act.put, List.setIfInBounds_toArray, List.set_cons_zero, List.set_cons_succ])
          have hown := hu1.base (B := w7.heap.size) hb79.size
          have hsrc : Src Tryz.prog 1 72 (.slice (some ⟨w7.heap.size, 0, none⟩) 1 1) 1 [.string k2] w10 := (hown0.below hb10).isSl.src Tryz.underlying72 (by intro u hu; rw [List.mem_singleton.1 hu]; rfl)
          refine ord_e rfl rfl rfl ?_; intro K hK
          refine wp_app (.tmp 97) (.tmp 105) 72 72 rfl S w7.heap.size 9 1 16 _ Tryz.underlying72 info_str rfl u1 A.keys.length (A.keys.map .string) rfl hown (.slice (some ⟨w7.heap.size, 0, none⟩) 1 1) 1 [.string k2] rfl hsrc (fun g hg => Nat.lt_of_lt_of_le (hsub7 g hg) hb710.size) hb710.size (by unfold maxLen; omega) (by omega) ?_
          intro ao11 c11 w11 hown11 hk11 hb11 hd11
          have hb711 : Below w7.heap.size w7 w11 := hb710.trans hb11
          refine hK.out _ _ hb711 ?_
          (try simp only [Act.put, List.setIfInBounds_toArray, List.set_cons_zero, List.set_cons_succ])
          refine ord_e rfl rfl rfl ?_; intro K hK
          refine wp_app (.tmp 106) (.tmp 110) 72 72 rfl S w7.heap.size 9 1 16 _ Tryz.underlying72 info_str rfl (.slice ao11 (A.keys.length + 1) c11) (A.keys.length + 1) _ rfl hown11 g1 B.keys.length (B.keys.map .string) rfl ((IsSl.below (IsSl.below B1 hb27) hb711).src Tryz.underlying72 (one_strs _)) (fun g hg => Nat.lt_of_lt_of_le (hsub7 g hg) hb711.size) hb711.size (by unfold maxLen; omega) (by omega) ?_
          intro ao12 c12 w12 hown12 hk12 hb12 hd12
          have hb712 : Below w7.heap.size w7 w12 := hb711.trans hb12
          refine hK.out _ _ hb712 ?_
          (try simp only [Act.put, List.setIfInBounds_toArray, List.set_cons_zero, List.set_cons_succ])
          repeat ((refine ord_q (v := ?_) rfl rfl (fun _ _ _ h => h) rfl (fun W hW => ?_) ?_); rotate_left; (focus ((try dsimp only at hW); have q0 := (hW.cell (p := ⟨na, 1, none⟩) lna).trans e1; have q1 := (hW.cell (p := ⟨nbb, 1, none⟩) lnb).trans f1; have q2 := Nat.lt_of_lt_of_le lna hW.size; have q3 := Nat.lt_of_lt_of_le lnb hW.size; have q4 := (hW.cell (p := ⟨nb, 1, none⟩) lnn).trans n1; have q5 := Nat.lt_of_lt_of_le lnn hW.size; have q6 := (hW.cell (p := ⟨kb0, ko0 + j, none⟩) lkk).trans nk1; have q7 := Nat.lt_of_lt_of_le lkk hW.size; have q8 := (hW.cell (p := ⟨nc, 1, none⟩) lnc).trans nc1; have q9 := Nat.lt_of_lt_of_le lnc hW.size; first | (go_simp; first | done | with_reducible rfl))); (try simp only [Act.put, List.setIfInBounds_toArray, List.set_cons_zero, List.set_cons_succ]))
          have hnc12 := (hb712.block nc lnc).trans bC
          obtain ⟨_, m1, _, _, mf, _, lm⟩ := cells3 hnc12
          refine ord_l rfl rfl rfl (by kernel_rfl) ?_; intro K hK; go_simp
          refine hK.out _ _ ?_
          refine ord_nil ?_
          go_wp2_with fail
          go_meet
          refine ⟨?_, hb27.trans ((hb712.mono hb27.size).setCell hnc _)⟩
          rw [hJe]
          exact node_setKeys hnc12 (fun hs => absurd (hsub2 _ hs) (Nat.not_lt.2 hnc)) (IsSl.below hP7 hb712) (IsSl.below hI7 hb712) hz0 hz2 (by
            have := hown12.isSl
            rw [show A.keys.map Value.string ++ [Value.string k2] ++ B.keys.map Value.string = (A.keys ++ [k2] ++ B.keys).map Value.string from by simp] at this
            unfold IsStrs
            rw [show (A.keys ++ [k2] ++ B.keys).length = A.keys.length + 1 + B.keys.length from by rw [List.length_append, List.length_append, List.length_singleton]]
            exact this) (hown12.ne hnc12 (by decide)) 
    case rest =>
      obtain ⟨wb, rfl⟩ : ∃ x : World, x = wc := ⟨_, rfl⟩
      obtain ⟨hcJ, hb2c⟩ := hcut
      obtain ⟨aA, cA, rfl, _, _, _, _⟩ := IsSl.form A2
      obtain ⟨aB, cB, rfl, _, _, _, _⟩ := IsSl.form B2
      have e2 := (hb2c.cell (p := ⟨na, 2, none⟩) lna).trans e2
      have f2 := (hb2c.cell (p := ⟨nbb, 2, none⟩) lnb).trans f2
      have lna := Nat.lt_of_lt_of_le lna hb2c.size
      have lnb := Nat.lt_of_lt_of_le lnb hb2c.size
      have hJs := okJ.size_le
      go_upto_region 9 with fail
      go_cut [132] from 13 to 196 (fun x wx => x = .bool (decide (512 < (joinNd A B k2).size ∧ A.kids.length ≠ 1 ∧ B.kids.length ≠ 1)) ∧ Below wb.heap.size wb wx)
      case first =>
        by_cases t1 : 512 < (joinNd A B k2).size
        · have s1 : (512 : Int) < ((joinNd A B k2).size : Int) := by omega
          have T1 := Lib.hid t1; clear t1
          by_cases t2 : A.kids.length = 1
          · have s2 : (A.kids.length : Int) = 1 := by omega
            have T2 := Lib.hid t2; clear t2
            go_wp2_with (first
              | (go_at_call 70; go_must ((refine (size_any nc _ _ S hcJ hJs).mono ?_); rintro e w8 ⟨rfl, hb8⟩; have e3 := (hb8.cell (p := ⟨na, 2, none⟩) lna).trans e2; have f3 := (hb8.cell (p := ⟨nbb, 2, none⟩) lnb).trans f2; have lna3 := Nat.lt_of_lt_of_le lna hb8.size; have lnb3 := Nat.lt_of_lt_of_le lnb hb8.size; clear e2 f2)))
            go_meet
            exact ⟨by rw [decide_eq_false (fun h => h.2.1 T2.out)], hb8⟩
          · have s2 : ¬ (A.kids.length : Int) = 1 := by omega
            have s2' : ((A.kids.length : Int) == 1) = false := by rw [beq_eq_false_iff_ne]; omega
            have T2 := Lib.hid t2; clear t2
            by_cases t3 : B.kids.length = 1
            · have s3 : (B.kids.length : Int) = 1 := by omega
              have T3 := Lib.hid t3; clear t3
              go_wp2_with (first
                | (go_at_call 70; go_must ((refine (size_any nc _ _ S hcJ hJs).mono ?_); rintro e w8 ⟨rfl, hb8⟩; have e3 := (hb8.cell (p := ⟨na, 2, none⟩) lna).trans e2; have f3 := (hb8.cell (p := ⟨nbb, 2, none⟩) lnb).trans f2; have lna3 := Nat.lt_of_lt_of_le lna hb8.size; have lnb3 := Nat.lt_of_lt_of_le lnb hb8.size; clear e2 f2)))
              go_meet
              exact ⟨by rw [decide_eq_false (fun h => h.2.2 T3.out)], hb8⟩
            · have s3 : ¬ (B.kids.length : Int) = 1 := by omega
              have s3' : ((B.kids.length : Int) == 1) = false := by rw [beq_eq_false_iff_ne]; omega
              have T3 := Lib.hid t3; clear t3
              go_wp2_with (first
                | (go_at_call 70; go_must ((refine (size_any nc _ _ S hcJ hJs).mono ?_); rintro e w8 ⟨rfl, hb8⟩; have e3 := (hb8.cell (p := ⟨na, 2, none⟩) lna).trans e2; have f3 := (hb8.cell (p := ⟨nbb, 2, none⟩) lnb).trans f2; have lna3 := Nat.lt_of_lt_of_le lna hb8.size; have lnb3 := Nat.lt_of_lt_of_le lnb hb8.size; clear e2 f2)))
              go_meet
              exact ⟨by rw [decide_eq_true ⟨T1.out, T2.out, T3.out⟩]; have q2 := T2.out; have q3 := T3.out; congr 1; rw [Bool.and_eq_true]; constructor <;> rw [bne_iff_ne] <;> omega, hb8⟩
        · have s1 : ¬ (512 : Int) < ((joinNd A B k2).size : Int) := by omega
          have T1 := Lib.hid t1; clear t1
          go_wp2_with (first
            | (go_at_call 70; go_must ((refine (size_any nc _ _ S hcJ hJs).mono ?_); rintro e w8 ⟨rfl, hb8⟩; clear e2 f2)))
          go_meet
          exact ⟨by rw [decide_eq_false (fun h => T1.out h.1)], hb8⟩
      case rest =>
        obtain ⟨rfl, hbcd⟩ := hcut
        have hbw : Below w.heap.size w wc := (hbw2.trans (hb2c.mono hbw2.size)).trans (hbcd.mono (Nat.le_trans hbw2.size hb2c.size))
        have hcJ' := hcJ.below hbcd
        have hIc := HI.out.below hbw
        have hTc := (HT.out).step hst (Step.of_below (S := S) hbw)
        have hNc := HN.out.below hbw
        have hSJc := HSJ.out.step (Step.of_below (S := S) hbw) hst hSb hSp
        clear hb2c hbcd hcJ e2 f2 lna lnb hb27 hP7 hI7 hcn hbC hz0 hz2 hHA7 hb1 hb2 HI1 HI2 hsj2 e0 e1 f0 f1 A0 A1 B0 B1
        by_cases hout : 512 < (joinNd A B k2).size ∧ A.kids.length ≠ 1 ∧ B.kids.length ≠ 1
        · have ho : decide (512 < (joinNd A B k2).size ∧ A.kids.length ≠ 1 ∧ B.kids.length ≠ 1) = true := decide_eq_true hout
          rw [ho]
          have HO := Lib.hid hout; clear hout ho
          go_wp2_with fail
          refine bodyPost_ret (results_none rfl _ _ _) rfl ?_
          exact ⟨rfl, σ, S, nd, hIc, hNc, Keep.of_below hbw _, fun g hg => .inl hg, .inl ⟨HO.out.1, HO.out.2.1, HO.out.2.2, rfl, rfl⟩⟩
        · have ho : decide (512 < (joinNd A B k2).size ∧ A.kids.length ≠ 1 ∧ B.kids.length ≠ 1) = false := decide_eq_false hout
          rw [ho]
          clear hout ho
          have hf1 := free_any mp σ S wc.drew b1 (hIc.below ((Below.refl _ wc).drew)) (wf_nat b1 (by have := HA.out.lo; omega) (by have := HA.out.hi; omega)) HA.out.has
          have HF1 := Lib.hid hf1; clear hf1
          have hm : ∀ w, (method 277 24 (.pointer (some ⟨mp, 0, none⟩)) "Free").run Tryz.prog w = .ok (120, .pointer (some ⟨mp, 0, none⟩)) w := fun _ => by kernel_rfl
          obtain ⟨q0, q1, q2, q3, q4, q5, q6⟩ := hSJc.cells
          clear q0 q1 q2 q3 q4 q5 q6
          have hj5 : (j : Int) < (nd.kids.length : Int) := by omega
          have hj6 : (j : Int) + 1 < (nd.kids.length : Int) := by omega
          go_wp2_with fail
          refine wp_region_ord (fun W => SJ t mp nb pb po j nd.kids.length cp2 root err b1 b2 v0 v1 W) (fun i => !([13, 14].contains i)) [0, 1, 2, 3, 4, 5, 6, 7, 8, 9, 10, 11, 12, 13, 14] rfl (by kernel_rfl) hSJc ?_
          repeat ((refine ord_q (v := ?_) rfl rfl (fun _ _ _ h => h) rfl (fun W hW => ?_) ?_); rotate_left; (focus ((try dsimp only at hW); obtain ⟨q0, q1, q2, q3, q4, q5, q6⟩ := hW.cells; first | (go_simp; first | done | with_reducible rfl))); (try simp only [Act.put, List.setIfInBounds_toArray, List.set_cons_zero, List.set_cons_succ]))
          refine ord_e rfl rfl rfl ?_; intro K hK; go_simp
          refine HF1.out.mono ?_; rintro e w3 ⟨rfl, hI3, hs3⟩
          have hs3 : Step S S wc w3 := (Step.of_below ((Below.refl _ wc).drew)).trans hs3
          have hSJ3 := hSJc.step hs3 hst hSb hSp
          refine hK.out _ _ hSJ3 ?_
          (try simp only [Act.put, List.setIfInBounds_toArray, List.set_cons_zero, List.set_cons_succ])
          refine ord_e rfl rfl rfl ?_; intro K hK; go_simp
          refine (must_ok _).mono ?_; rintro e w4 ⟨rfl, hw⟩; subst w4
          refine hK.out _ _ hSJ3 ?_
          refine ord_nil ?_
          have hf2 := free_any mp (σ.gone b1) S w3.drew b2 (hI3.below ((Below.refl _ w3).drew)) (wf_nat b2 (by have := HB.out.lo; omega) (by have := HB.out.hi; omega)) HB2.out
          have HF2 := Lib.hid hf2; clear hf2
          have hpw : IntKind.i64.wrap ((j : Int) + 1) = (j : Int) + 1 := IntWalk.i64_in _ (by omega)
          have hpt : ((j : Int) + 1).toNat = j + 1 := by omega
          have hp0 : (0 : Int) ≤ (j : Int) + 1 := by omega
          go_wp2_with fail
          refine wp_region_ord (fun W => SJ t mp nb pb po j nd.kids.length cp2 root err b1 b2 v0 v1 W) (fun i => !([14, 15].contains i)) [0, 1, 2, 3, 4, 5, 6, 7, 8, 9, 10, 11, 12, 13, 14, 15] rfl (by kernel_rfl) hSJ3 ?_
          repeat ((refine ord_q (v := ?_) rfl rfl (fun _ _ _ h => h) rfl (fun W hW => ?_) ?_); rotate_left; (focus ((try dsimp only at hW); obtain ⟨q0, q1, q2, q3, q4, q5, q6⟩ := hW.cells; first | (go_simp; first | done | with_reducible rfl))); (try simp only [Act.put, List.setIfInBounds_toArray, List.set_cons_zero, List.set_cons_succ]))
          refine ord_e rfl rfl rfl ?_; intro K hK; go_simp
          refine HF2.out.mono ?_; rintro e w4 ⟨rfl, hI4, hs4⟩
          have hs4 : Step S S w3 w4 := (Step.of_below ((Below.refl _ w3).drew)).trans hs4
          have hSJ4 := hSJ3.step hs4 hst hSb hSp
          refine hK.out _ _ hSJ4 ?_
          (try simp only [Act.put, List.setIfInBounds_toArray, List.set_cons_zero, List.set_cons_succ])
          refine ord_e rfl rfl rfl ?_; intro K hK; go_simp
          refine (must_ok _).mono ?_; rintro e w5 ⟨rfl, hw⟩; subst w5
          refine hK.out _ _ hSJ4 ?_
          refine ord_nil ?_
          clear hpw hpt hp0
          have hs14 : Step S S wc w4 := hs3.trans hs4
          have hT4 := hTc.1.step hTc.2 hs14
          have hJ4 := hcJ'.step hs14
          have hN4 := hNc.step hs14
          have hst4 : Step S S w w4 := (Step.of_below hbw).trans hs14
          clear hSJc hSJ3 hSJ4 hIc hTc hNc hI3 hs3 hs4 hcJ'
          go_wp2_with (first
            | (go_at_call 46; go_must ((refine (spread_any t mp root err _ ((σ.gone b1).gone b2) S nc (joinNd A B k2) ⟨#[]⟩ w4 hI4 hT4.1 hT4.2 hJ4 okJ (Nat.lt_succ_self _) HR.out).mono ?_); rintro e w5 ⟨v, ps, zs, σ', S', rfl, hown, hspr, hputs, hI5, hs5⟩; refine Stop.of ?_)))
          refine Stop.on ?_
          have hst5 : Step S S' w w5 := hst4.trans hs5
          obtain ⟨hSb5, n0, n1, n2, bN, N0, N1, N2⟩ := HN.out.step hst5
          obtain ⟨ao0, cp0, rfl, _, _, _, _⟩ := IsSl.form N0
          obtain ⟨ao1, cp1, rfl, _, _, _, _⟩ := IsSl.form N1
          obtain ⟨ao2, cp2', rfl, _, _, _, _⟩ := IsSl.form N2
          have hkpos : 0 < nd.keys.length := by have := HKK.out; omega
          have hkl : nd.keys.length ≤ 1000000 := by have := HKK.out; omega
          have hjk : j < nd.keys.length := by have := HKK.out; omega
          have hne1 := strs_ne bN N1 hkpos
          obtain ⟨_, _, y2, _, _, _, ly⟩ := cells3 bN
          have hC5 := cloneInt_any (.slice ao2 nd.kids.length cp2') nd.kids.length (nd.kids.map (.int .i64)) w5 S' hI5.sub N2 (one_ints _) (by omega)
          have HC5 := Lib.hid hC5; clear hC5
          have hpw : IntKind.i64.wrap ((j : Int) + 1) = (j : Int) + 1 := IntWalk.i64_in _ (by omega)
          have hpw2 : IntKind.i64.wrap ((j : Int) + 2) = (j : Int) + 2 := IntWalk.i64_in _ (by omega)
          go_wp2_with (first
            | (go_at_call 76; go_must (refine HC5.out.mono ?_; rintro e w6 ⟨u1, rfl, hu1, hb6⟩; refine Stop.of ?_)))
          refine Stop.on ?_
          obtain ⟨g6, c6', rfl, _, _, hg6, _⟩ := hu1.form2 (by omega)
          have hD6 := delInt_any g6 c6' nd.kids.length (j + 1) (nd.kids.map (.int .i64)) w6 S' w5.heap.size hu1 (one_ints _) (by omega) (by omega)
          rw [show ((j + 1 : Nat) : Int) = (j : Int) + 1 from by omega, show (j : Int) + 1 + 1 = (j : Int) + 2 from by omega] at hD6
          have HD6 := Lib.hid hD6; clear hD6
          go_wp2_with (first
            | (go_at_call 79; go_must (refine HD6.out.mono ?_; rintro e w7 ⟨c7, rfl, hu7, hk7⟩; refine Stop.of ?_)))
          refine Stop.on ?_
          have hgb : nb ≠ g6 := fun e => by rw [← e] at hg6; exact absurd ly (Nat.not_lt.2 hg6)
          have ly6 := Nat.lt_of_lt_of_le ly hb6.size
          have bN7 : w7.heap[nb]? = some (.cells #[.slice ao0 nd.pairs.length cp0, .slice ao1 nd.keys.length cp1, .slice ao2 nd.kids.length cp2'] 74 (0, 0)) := (hk7.block nb ly6 hgb).trans ((hb6.block nb ly).trans bN)
          have hb57 : Below w5.heap.size w5 w7 := hb6.trans (hk7.toBelow hb6.size (fun i hi e => absurd hg6 (Nat.not_le.2 (by rw [← e]; exact hi))))
          obtain ⟨_, _, z2, _, _, zf, lz⟩ := cells3 bN7
          clear y2
          go_upto_region 14 with fail
          have hk8 : Keep (· = nb) w7 (w7.setCell ⟨nb, 2, none⟩ (.slice (some ⟨g6, 0, none⟩) (nd.kids.length - 1) c7)) := Keep.setCell (M := (· = nb)) (p := ⟨nb, 2, none⟩) (Keep.refl _ _) (.inr rfl) _
          have bN8 : (w7.setCell ⟨nb, 2, none⟩ (.slice (some ⟨g6, 0, none⟩) (nd.kids.length - 1) c7)).heap[nb]? = some (.cells #[.slice ao0 nd.pairs.length cp0, .slice ao1 nd.keys.length cp1, .slice (some ⟨g6, 0, none⟩) (nd.kids.length - 1) c7] 74 (0, 0)) := by
            simp [World.setCell, Array.getElem?_modify, bN7]
          clear z2 zf lz
          generalize w7.setCell ⟨nb, 2, none⟩ (.slice (some ⟨g6, 0, none⟩) (nd.kids.length - 1) c7) = w8 at hk8 bN8 ⊢
          have N18 : IsStrs w8 S' (.slice ao1 nd.keys.length cp1) nd.keys := IsSl.keep (IsSl.below N1 hb57) fun g hg hl hs => ⟨hk8.block g hl (fun e => hne1 (by rw [hg, e])), hs⟩
          have hu8 := hu7.keep (w' := w8) (S' := S') fun g hg hl hs => ⟨hk8.block g hl (fun e => hu7.ne bN7 (by decide) (by rw [hg, e])), hs⟩
          have hbw8 : ∀ g, g < w5.heap.size → g ≠ nb → w8.heap[g]? = w5.heap[g]? := fun g hg hn => (hk8.block g (Nat.lt_of_lt_of_le hg hb57.size) hn).trans (hb57.block g hg)
          have hsz8 : w5.heap.size ≤ w8.heap.size := Nat.le_trans hb57.size hk8.size
          have hsub8 : ∀ g, S' g → g < w8.heap.size := fun g hg => Nat.lt_of_lt_of_le (hI5.sub g hg) hsz8
          obtain ⟨_, y1, _, _, _, _, ly8⟩ := cells3 bN8
          have hC8 := cloneStr_any (.slice ao1 nd.keys.length cp1) nd.keys.length (nd.keys.map .string) w8 S' hsub8 N18 (one_strs _) hkl
          have HC8 := Lib.hid hC8; clear hC8
          go_wp2_with (first
            | (go_at_call 78; go_must (refine HC8.out.mono ?_; rintro e w9 ⟨u2, rfl, hu9, hb9⟩; refine Stop.of ?_)))
          refine Stop.on ?_
          obtain ⟨g9, c9, rfl, _, _, hg9, _⟩ := hu9.form2 hkpos
          have hD9 := delStr_any g9 c9 nd.keys.length j (nd.keys.map .string) w9 S' w8.heap.size hu9 (one_strs _) hjk hkl
          have HD9 := Lib.hid hD9; clear hD9
          go_wp2_with (first
            | (go_at_call 80; go_must (refine HD9.out.mono ?_; rintro e w10 ⟨c10, rfl, hu10, hk10⟩; refine Stop.of ?_)))
          refine Stop.on ?_
          have hgb9 : nb ≠ g9 := fun e => by rw [← e] at hg9; exact absurd ly8 (Nat.not_lt.2 hg9)
          have bN10 : w10.heap[nb]? = some (.cells #[.slice ao0 nd.pairs.length cp0, .slice ao1 nd.keys.length cp1, .slice (some ⟨g6, 0, none⟩) (nd.kids.length - 1) c7] 74 (0, 0)) := (hk10.block nb (Nat.lt_of_lt_of_le ly8 hb9.size) hgb9).trans ((hb9.block nb ly8).trans bN8)
          have hb810 : Below w8.heap.size w8 w10 := hb9.trans (hk10.toBelow hb9.size (fun i hi e => absurd hg9 (Nat.not_le.2 (by rw [← e]; exact hi))))
          obtain ⟨_, z1, _, _, zf, _, lz⟩ := cells3 bN10
          clear y1
          go_upto_region 15 with fail
          have hk11 : Keep (· = nb) w10 (w10.setCell ⟨nb, 1, none⟩ (.slice (some ⟨g9, 0, none⟩) (nd.keys.length - 1) c10)) := Keep.setCell (M := (· = nb)) (p := ⟨nb, 1, none⟩) (Keep.refl _ _) (.inr rfl) _
          have bN11 : (w10.setCell ⟨nb, 1, none⟩ (.slice (some ⟨g9, 0, none⟩) (nd.keys.length - 1) c10)).heap[nb]? = some (.cells #[.slice ao0 nd.pairs.length cp0, .slice (some ⟨g9, 0, none⟩) (nd.keys.length - 1) c10, .slice (some ⟨g6, 0, none⟩) (nd.kids.length - 1) c7] 74 (0, 0)) := by
            simp [World.setCell, Array.getElem?_modify, bN10]
          clear z1 zf lz
          generalize w10.setCell ⟨nb, 1, none⟩ (.slice (some ⟨g9, 0, none⟩) (nd.keys.length - 1) c10) = w11 at hk11 bN11 ⊢
          have hu11 := hu10.keep (w' := w11) (S' := S') fun g hg hl hs => ⟨hk11.block g hl (fun e => hu10.ne bN10 (by decide) (by rw [hg, e])), hs⟩
          have hu811 := (hu8.below hb810).keep (w' := w11) (S' := S') fun g hg hl hs => ⟨hk11.block g hl (fun e => (hu8.below hb810).ne bN10 (by decide) (by rw [hg, e])), hs⟩
          have hsz11 : w5.heap.size ≤ w11.heap.size := Nat.le_trans hsz8 (Nat.le_trans hb810.size hk11.size)
          have hbw11 : ∀ g, g < w5.heap.size → g ≠ nb → w11.heap[g]? = w5.heap[g]? := fun g hg hn => (hk11.block g (Nat.lt_of_lt_of_le hg (Nat.le_trans hsz8 hb810.size)) hn).trans ((hb810.block g (Nat.lt_of_lt_of_le hg hsz8)).trans (hbw8 g hg hn))
          have hkeep : Keep (· = nb) w5 w11 := ⟨hk11.os.trans (hb810.os.trans (hk8.os.trans hb57.os)), hk11.tape.trans (hb810.tape.trans (hk8.tape.trans hb57.tape)), hk11.output.trans (hb810.output.trans (hk8.output.trans hb57.output)), hsz11, fun g hg hn => hbw11 g hg hn⟩
          have hlenk : (nd.delAt j).kids.length = nd.kids.length - 1 := by simp [Nd.delAt]; omega
          have hlenks : (nd.delAt j).keys.length = nd.keys.length - 1 := by simp [Nd.delAt]; omega
          have hN11 : IsNode w11 S' nb (nd.delAt j) := by
            refine ⟨hSb5, _, _, _, bN11, ?_, ?_, ?_⟩
            · have e : (nd.delAt j).pairs = [] := HP.out
              rw [e]
              have N0' := N0
              unfold IsPrs at N0' ⊢
              rw [HP.out] at N0' ⊢
              exact IsSl.empty N0' hsz11
            · have := hu11.isSl
              unfold IsStrs
              rw [hlenks]
              have e : (nd.delAt j).keys.map Value.string = (nd.keys.map Value.string).take (j * 1) ++ (nd.keys.map Value.string).drop ((j + 1) * 1) := by simp [Nd.delAt, List.map_take, List.map_drop]
              rw [e]; exact this
            · have := hu811.isSl
              unfold IsInts
              rw [hlenk]
              have e : (nd.delAt j).kids.map (Value.int .i64) = (nd.kids.map (Value.int .i64)).take ((j + 1) * 1) ++ (nd.kids.map (Value.int .i64)).drop ((j + 1 + 1) * 1) := by simp [Nd.delAt, List.map_take, List.map_drop]
              rw [e]; exact this
          have hown11 := hown.keep (w' := w11) (S' := S') fun g hg hl hs => ⟨hkeep.block g hl (fun e => hown.ne bN (by decide) (by rw [hg, e])), hs⟩
          have hI11 := hI5.keepM hkeep (fun g hg e => hSb5 (by rw [← e]; exact hg))
          have hpl : ps.length ≤ 100000 := by
            have e1 := hputs.length.1
            have e2 := hspr.room okJ
            have e3 := room_le okJ
            omega
          have hR := replace_any nb (nd.delAt j) v ps j w11 S' hI11.sub hN11 HP.out hown11.isSl (by rw [hlenk]; omega) (by rw [hlenk, hlenks, HKK.out]) (by rw [hlenk]; omega) hpl
          have HRp := Lib.hid hR; clear hR
          have HSP := Lib.hid hspr; clear hspr
          have HPU := Lib.hid hputs; clear hputs
          go_wp2_with (first
            | (go_at_call 49; go_must (refine HRp.out.mono ?_; rintro e w12 ⟨rfl, hN12, hk12⟩)))
          go_end0
          refine ⟨rfl, σ', S', _, hI11.keepM hk12 (fun g hg e => hSb5 (by rw [← e]; exact hg)), hN12, ?_, hst5.2, .inr ⟨ps, zs, HSP.out, HPU.out, rfl⟩⟩
          exact ((hst5.1.mono (fun _ _ h => .inl h)).trans hkeep (fun _ _ h => .inr h)).trans hk12 (fun _ _ h => .inr h)
end Go.Proofs.YtbldcbakhpdigaaGreat

