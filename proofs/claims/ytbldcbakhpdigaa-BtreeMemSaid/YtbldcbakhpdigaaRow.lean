/- Laws on a whole row of cells: append where there is room, copy, clear; each as one step of a walk. No program in sight. -/
import Derived.Test.YtbldcbakhpdigaaMem
import Derived.Laws.CopyOwn
import Derived.Deep.RegionLaw
namespace Go.Proofs.Ytbldcbakhpdigaa
open Go.RowKit

/-- block g is a row of cells, none frozen -/
def Row (w : World) (g e : Nat) (cur : List Value) : Prop := w.heap[g]? = some (.cells cur.toArray e (0, 0))

theorem Row.lt {w : World} {g e : Nat} {cur : List Value} (h : Row w g e cur) : g < w.heap.size := (Array.getElem?_eq_some_iff.1 h).1
theorem Row.cell {w : World} {g e : Nat} {cur : List Value} (h : Row w g e cur) (j : Nat) : w.cell? ⟨g, j, none⟩ = cur[j]? := by
  have := cell_of_row w g j cur.toArray e (0, 0) h
  simpa using this
theorem Row.frozen {w : World} {g e : Nat} {cur : List Value} (h : Row w g e cur) (j : Nat) : w.frozen? ⟨g, j, none⟩ = false := by
  unfold Row at h; simp [World.frozen?, h]
theorem Row.keep {w w' : World} {g e : Nat} {cur : List Value} {M : Nat → Prop} (h : Row w g e cur) (k : Keep M w w') (hM : ¬ M g) : Row w' g e cur := (k.block g h.lt hM).trans h

theorem OwnSl.row {w : World} {S : Nat → Prop} {B e k n g cap : Nat} {xs : List Value} (h : OwnSl w S B e k (.slice (some ⟨g, 0, none⟩) n cap) n xs) :
    ∃ cur, Row w g e cur ∧ cur.length = cap * k ∧ cur.take (n * k) = xs ∧ B ≤ g ∧ ¬ S g ∧ n ≤ cap ∧ cap ≤ maxLen := by
  obtain ⟨⟨hl, hr⟩, hn⟩ := h
  rcases hr with ⟨h, _⟩ | ⟨g', cap', cur, hv, hB, hg, h1, h2, h3, h4⟩
  · cases h
  · cases hv
    exact ⟨cur.toList, hg, by simpa using h3, h4, hB, hn g rfl, h1, h2⟩

/-- an owned slice lies in no block of another element type -/
theorem OwnSl.ne {w : World} {S : Nat → Prop} {B e k n b t : Nat} {v : Value} {xs : List Value} {cs : Array Value} {fr : Nat × Nat} (h : OwnSl w S B e k v n xs) (hb : w.heap[b]? = some (.cells cs t fr)) (ht : t ≠ e) : v.ownBlock ≠ some b := by
  intro e1
  rcases h.1.2 with ⟨rfl, _⟩ | ⟨g, cap, cur, rfl, _, hg, _⟩
  · cases e1
  · cases e1
    rw [hg] at hb; cases hb; exact ht rfl

theorem Row.own {w : World} {S : Nat → Prop} {B e k g cap : Nat} {cur : List Value} (h : Row w g e cur) (n : Nat) (hl : cur.length = cap * k) (hB : B ≤ g) (hS : ¬ S g) (hn : n ≤ cap) (hc : cap ≤ maxLen) :
    OwnSl w S B e k (.slice (some ⟨g, 0, none⟩) n cap) n (cur.take (n * k)) := by
  refine ⟨⟨?_, .inr ⟨g, cap, cur.toArray, rfl, hB, h, hn, hc, by simpa using hl, rfl⟩⟩, fun g' hg => by cases hg; exact hS⟩
  rw [List.length_take, hl]; exact Nat.min_eq_left (Nat.mul_le_mul_right _ hn)

theorem Row.isSl {w : World} {S : Nat → Prop} {e k g off : Nat} {cur : List Value} (h : Row w g e cur) (n c : Nat) (hl : off + n * k ≤ cur.length) (hS : ¬ S g) (hn : n ≤ c) (hc : c ≤ maxLen) :
    IsSl w S k (.slice (some ⟨g, off, none⟩) n c) n ((cur.drop off).take (n * k)) := by
  refine ⟨_, c, rfl, hn, hc, ?_, by simp, fun ad had => by cases had; exact ⟨rfl, h.lt, hS⟩, fun j u hu => ⟨g, off, rfl, ?_⟩⟩
  · rw [List.length_take, List.length_drop]; omega
  · rw [h.cell]
    rw [List.getElem?_take] at hu
    split at hu
    · simpa using hu
    · cases hu

theorem splice_at {α : Type} (A Y T news : List α) (off : Nat) (hA : A.length = off) (hY : Y.length = news.length) : splice (A ++ (Y ++ T)) off news = A ++ (news ++ T) := by
  subst hA
  unfold splice
  rw [List.take_left, ← hY, ← List.append_assoc A Y T, ← List.length_append, List.drop_left]

section
variable {P : Program}

theorem run_storeRow {w : World} {g e off : Nat} {cur : List Value} (h : Row w g e cur) (cs : List Value) (hfit : off + cs.length ≤ cur.length) (h1 : ∀ v ∈ cs, v.oneCell' = true) :
    ∃ w', (storeCells ⟨g, off, none⟩ cs 0).run P w = .ok () w' ∧ Row w' g e (splice cur off cs) ∧ Keep (· = g) w w' := by
  have hst := run_storeCells_at P g off e cs 0 cur.toArray w h (by simpa using hfit) h1
  simp only [Nat.add_zero] at hst
  refine ⟨_, hst, ?_, ⟨rfl, rfl, rfl, by simp, fun k' _ hk => setRow_other w g k' _ hk⟩⟩
  have := setRow_heap w g cur.toArray (cur.toArray.toList.take off ++ cs ++ cur.toArray.toList.drop (off + cs.length)).toArray e (0, 0) h
  unfold Row
  rw [this]
  simp [splice]

/-- append where there is room -/
theorem run_room {w : World} (t tx ty e : TypeId) (i : TypeInfo) (k : Nat) (ht : P.underlying t = some (.slice e)) (hi : P.info? e = some i) (hk : i.size = k) {g n cap e' : Nat} {cur : List Value} (h : Row w g e' cur)
    (x : Value) (m : Nat) (news : List Value) (hs : Src P k tx x m news w) (hroom : n + m ≤ cap) (hfit : n * k + news.length ≤ cur.length) :
    ∃ w', (Builtin.append_ #[t, tx] ty #[.slice (some ⟨g, 0, none⟩) n cap, x]).run P w = .ok (.slice (some ⟨g, 0, none⟩) (n + m) cap) w' ∧ Row w' g e' (splice cur (n * k) news) ∧ Keep (· = g) w w' := by
  subst hk
  obtain ⟨w', hst, h2, h3⟩ := run_storeRow (P := P) h news hfit hs.one
  refine ⟨w', ?_, h2, h3⟩
  rcases hs.kind with ⟨e'', hk⟩ | hk <;> simp [Builtin.append_, run_underlying ht, run_underlying hk, sizeOf, typeInfo, hi, hs.len, hroom, hs.cells, Addr.add_lit, hst]

theorem wp_room {o : Oper} {a : Act} {w : World} {K : Act → World → Prop} {Q : Exit → Act → World → Prop} (s y : Operand) (t tx : TypeId) (ho : o.op = .call { callee := .builtin .append, args := #[s, y], argTypes := #[t, tx] })
    (e k bytes : Nat) (z : Value) (ht : P.underlying t = some (.slice e)) (hinfo : (P.info? e).map (fun i => (i.zero, i.size, i.bytes)) = some (some z, k, bytes))
    (g n cap e' : Nat) (cur : List Value) (hv : a.eval s = .slice (some ⟨g, 0, none⟩) n cap) (hr : Row w g e' cur) (x : Value) (m : Nat) (news : List Value) (hx : a.eval y = x) (hs : Src P k tx x m news w)
    (hroom : n + m ≤ cap) (hfit : n * k + news.length ≤ cur.length)
    (h : ∀ w', Row w' g e' (splice cur (n * k) news) → Keep (· = g) w w' → K (a.put o.dst (.slice (some ⟨g, 0, none⟩) (n + m) cap)) w') : o.wp P a w K Q := by
  obtain ⟨i, hi, hz, hsize, hby⟩ := info_parts hinfo
  obtain ⟨w', hrun, h2, h3⟩ := run_room (P := P) t tx o.type e i k ht hi hsize hr x m news hs hroom hfit
  unfold Oper.wp execOp
  simp only [ho, resolve, invoke, builtin, Sem.run_bind, Sem.run_pure, Result.andThen_ok, List.map_toArray, List.map_cons, List.map_nil, hv, hx, hrun]
  exact h w' h2 h3

/-- copy into a row -/
theorem run_copyRow {w : World} (t tx ty e : TypeId) (i : TypeInfo) (k : Nat) (ht : P.underlying t = some (.slice e)) (hi : P.info? e = some i) (hk : i.size = k) {g off e' n dLen dCap : Nat} {dp : Option Addr} {cur : List Value} (h : Row w g e' cur)
    (x : Value) (m : Nat) (hlen : (Builtin.lenOf x).run P w = .ok m w) (hn : n = Nat.min m dLen) (cs : List Value) (hcl : cs.length = n * k) (hcs : (Builtin.firstCells k n x).run P w = .ok cs.toArray w)
    (hd : 0 < cs.length → dp = some ⟨g, off, none⟩) (hfit : off + cs.length ≤ cur.length) (h1 : ∀ v ∈ cs, v.oneCell' = true) :
    ∃ w', (Builtin.copy_ #[t, tx] ty #[.slice dp dLen dCap, x]).run P w = .ok (goInt n) w' ∧ Row w' g e' (splice cur off cs) ∧ Keep (· = g) w w' := by
  subst hk
  subst hn
  by_cases h0 : 0 < cs.length
  · obtain rfl := hd h0
    obtain ⟨w', hst, h2, h3⟩ := run_storeRow (P := P) h cs hfit h1
    refine ⟨w', ?_, h2, h3⟩
    simp [Builtin.copy_, run_underlying ht, sizeOf, typeInfo, hi, hlen, hcs, hst]
  · obtain rfl : cs = [] := List.eq_nil_of_length_eq_zero (by omega)
    refine ⟨w, ?_, by unfold Row at *; simpa [splice] using h, Keep.refl _ _⟩
    cases dp with
    | none => simp [Builtin.copy_, run_underlying ht, sizeOf, typeInfo, hi, hlen, hcs]
    | some ad => simp [Builtin.copy_, run_underlying ht, sizeOf, typeInfo, hi, hlen, hcs, storeCells]

theorem wp_copyRow {o : Oper} {a : Act} {w : World} {K : Act → World → Prop} {Q : Exit → Act → World → Prop} (s y : Operand) (t tx : TypeId) (ho : o.op = .call { callee := .builtin .copy, args := #[s, y], argTypes := #[t, tx] })
    (e k bytes : Nat) (z : Value) (ht : P.underlying t = some (.slice e)) (hinfo : (P.info? e).map (fun i => (i.zero, i.size, i.bytes)) = some (some z, k, bytes))
    (g off e' n dLen dCap : Nat) (dp : Option Addr) (cur : List Value) (hv : a.eval s = .slice dp dLen dCap) (hr : Row w g e' cur) (x : Value) (hx : a.eval y = x) (m : Nat) (cs : List Value)
    (hlen : (Builtin.lenOf x).run P w = .ok m w) (hn : n = Nat.min m dLen) (hcl : cs.length = n * k) (hcs : (Builtin.firstCells k n x).run P w = .ok cs.toArray w)
    (hd : 0 < cs.length → dp = some ⟨g, off, none⟩) (hfit : off + cs.length ≤ cur.length) (h1 : ∀ v ∈ cs, v.oneCell' = true)
    (h : ∀ w', Row w' g e' (splice cur off cs) → Keep (· = g) w w' → K (a.put o.dst (goInt n)) w') : o.wp P a w K Q := by
  obtain ⟨i, hi, hz, hsize, hby⟩ := info_parts hinfo
  obtain ⟨w', hrun, h2, h3⟩ := run_copyRow (P := P) t tx o.type e i k ht hi hsize hr x m hlen hn cs hcl hcs hd hfit h1 (dCap := dCap)
  unfold Oper.wp execOp
  simp only [ho, resolve, invoke, builtin, Sem.run_bind, Sem.run_pure, Result.andThen_ok, List.map_toArray, List.map_cons, List.map_nil, hv, hx, hrun]
  exact h w' h2 h3

/-- the cells of a copy's source, a slice of which the first n elements are read -/
theorem IsSl.first {w : World} {S : Nat → Prop} {k n : Nat} {v : Value} {xs : List Value} (h : IsSl w S k v n xs) (m : Nat) (hm : m ≤ n) : (Builtin.firstCells k m v).run P w = .ok (xs.take (m * k)).toArray w := by
  obtain ⟨ao, c, rfl, _, _, h3, h4, h5, h6⟩ := h
  cases ao with
  | none =>
    obtain ⟨rfl, rfl⟩ := h4 rfl
    have : xs = [] := List.eq_nil_of_length_eq_zero (by simpa using h3)
    subst this
    simp [Builtin.firstCells]
  | some ad =>
    obtain ⟨b, o, sp⟩ := ad
    obtain rfl : sp = none := (h5 _ rfl).1
    refine run_firstCells_some w k m ⟨b, o, none⟩ n c _ (by rw [List.length_take, h3]; exact Nat.min_eq_left (Nat.mul_le_mul_right _ hm)) (fun j u hu => ?_)
    rw [List.getElem?_take] at hu
    split at hu
    · obtain ⟨b', o', e, hc⟩ := h6 j u hu
      cases e
      rw [Addr.add_lit]; exact hc
    · cases hu
theorem IsSl.lenOf {w : World} {S : Nat → Prop} {k n : Nat} {v : Value} {xs : List Value} (h : IsSl w S k v n xs) : (Builtin.lenOf v).run P w = .ok n w := by
  obtain ⟨ao, c, rfl, _⟩ := h; rfl

theorem zeroCells_one (z : Array Value) (n : Nat) (h : ∀ v ∈ z.toList, v.oneCell' = true) (h0 : 0 < z.size) : ∀ v ∈ (Builtin.zeroCells z n).toList, v.oneCell' = true := by
  intro v hv
  simp only [Builtin.zeroCells, Array.toList_map, List.mem_map] at hv
  obtain ⟨i, _, rfl⟩ := hv
  have hlt := Nat.mod_lt i h0
  rw [getElem!_pos z (i % z.size) hlt]
  exact h _ (by simp)

/-- clear, in a row -/
theorem run_clearRow {w : World} (t ty e : TypeId) (i : TypeInfo) (z : Value) (k : Nat) (ht : P.underlying t = some (.slice e)) (hi : P.info? e = some i) (hz : i.zero = some z) (hzk : z.cells.size = k) {g off e' n c : Nat} {dp : Option Addr} {cur : List Value} (h : Row w g e' cur)
    (hd : 0 < n → dp = some ⟨g, off, none⟩) (hfit : off + n * k ≤ cur.length) (h1 : ∀ v ∈ (Builtin.zeroCells z.cells n).toList, v.oneCell' = true) :
    ∃ w' zs, (Builtin.clear_ #[t] ty #[.slice dp n c]).run P w = .ok (.tuple #[]) w' ∧ zs.length = n * k ∧ Row w' g e' (splice cur off zs) ∧ Keep (· = g) w w' := by
  cases n with
  | zero =>
    refine ⟨w, [], ?_, by simp, by unfold Row at *; simpa [splice] using h, Keep.refl _ _⟩
    cases dp <;> simp [Builtin.clear_, run_underlying ht]
  | succ n =>
    obtain rfl := hd (by omega)
    have hlz : (Builtin.zeroCells z.cells (n + 1)).toList.length = (n + 1) * k := by rw [Array.length_toList, size_zeroCells, hzk]
    obtain ⟨w', hst, h2, h3⟩ := run_storeRow (P := P) h (Builtin.zeroCells z.cells (n + 1)).toList (by rw [hlz]; exact hfit) h1
    refine ⟨w', _, ?_, hlz, h2, h3⟩
    simp [Builtin.clear_, run_underlying ht, zeroValue, typeInfo, hi, hz, hst]

theorem wp_clearRow {o : Oper} {a : Act} {w : World} {K : Act → World → Prop} {Q : Exit → Act → World → Prop} (s : Operand) (t : TypeId) (ho : o.op = .call { callee := .builtin .clear, args := #[s], argTypes := #[t] })
    (e k bytes : Nat) (z : Value) (ht : P.underlying t = some (.slice e)) (hinfo : (P.info? e).map (fun i => (i.zero, i.size, i.bytes)) = some (some z, k, bytes)) (hzk : z.cells.size = k)
    (g off e' n c : Nat) (dp : Option Addr) (cur : List Value) (hv : a.eval s = .slice dp n c) (hr : Row w g e' cur)
    (hd : 0 < n → dp = some ⟨g, off, none⟩) (hfit : off + n * k ≤ cur.length) (h1 : ∀ v ∈ (Builtin.zeroCells z.cells n).toList, v.oneCell' = true)
    (h : ∀ w' zs, zs.length = n * k → Row w' g e' (splice cur off zs) → Keep (· = g) w w' → K (a.put o.dst (.tuple #[])) w') : o.wp P a w K Q := by
  obtain ⟨i, hi, hz, hsize, hby⟩ := info_parts hinfo
  obtain ⟨w', zs, hrun, hl, h2, h3⟩ := run_clearRow (P := P) t o.type e i z k ht hi hz hzk hr hd hfit h1 (c := c)
  unfold Oper.wp execOp
  simp only [ho, resolve, invoke, builtin, Sem.run_bind, Sem.run_pure, Result.andThen_ok, List.map_toArray, List.map_cons, List.map_nil, hv, hrun]
  exact h w' zs hl h2 h3

/-- append(s[:i], make(S, m)...) where there is no room: a new row -/
theorem run_growZeros (w : World) (t tn ty e : TypeId) (i : TypeInfo) (z : Value) (k bytes : Nat) (ht : P.underlying t = some (.slice e)) (htn : P.underlying tn = some (.int .i64)) (hi : P.info? e = some i) (hz : i.zero = some z)
    (hsize : i.size = k) (hby : i.bytes = bytes) (hzs : z.cells.size = k) (hk0 : 0 < k) {g n cap m : Nat} {cur : List Value} (h : Row w g e cur) (hn : n * k ≤ cur.length) (hgrow : cap < n + m) (hm : 0 < m) (h63 : n + m ≤ maxLen) (hbytes : (n + m) * bytes ≤ 140737488355328) :
    ∃ c w' rest, (Builtin.append_ #[t, tn] ty #[.slice (some ⟨g, 0, none⟩) n cap, .int .i64 m]).run P w = .ok (.slice (some ⟨w.heap.size, 0, none⟩) (n + m) c) w' ∧ Row w' w.heap.size e (cur.take (n * k) ++ rest) ∧ (cur.take (n * k) ++ rest).length = c * k ∧ n + m ≤ c ∧ c ≤ maxLen ∧
      Keep NoS w w' := by
  subst hsize
  subst hby
  have hsmall : n + m ≤ 9223372036854775807 := by simp only [maxLen] at h63; omega
  have hge := grownCap_ge w (n + m) cap e
  have hcm : grownCap w (n + m) cap e ≤ maxLen := grownCap_le_maxLen w (n + m) cap e h63
  have hfit := growslice_fits hgrow hbytes
  have hold := (h.isSl (w := w.drew) (S := NoS) (k := i.size) (off := 0) n n (by omega) id (Nat.le_refl _) (by simp only [maxLen] at *; omega)).first (P := P) n (Nat.le_refl _)
  rw [List.drop_zero, List.take_take, Nat.min_self] at hold
  have hold' : (loadCells ⟨g, 0, none⟩ (n * i.size)).run P w.drew = .ok (cur.take (n * i.size)).toArray w.drew := hold
  have hw : IntKind.i64.wrap (m : Int) = m := by rw [IntKind.wrap_i64]; omega
  have h1 : ¬ ((m : Int) < 0) := by omega
  have h2 : ¬ (281474976710656 < (m : Int) * (i.bytes : Int)) := by
    have : m * i.bytes ≤ (n + m) * i.bytes := Nat.mul_le_mul_right _ (by omega)
    rw [← Int.natCast_mul]; omega
  have h3 : ¬ (n + m ≤ cap) := by omega
  have h4 : ¬ (9223372036854775807 < ((n : Int) + (m : Int))) := by omega
  have h5 : ¬ (281474976710656 < Builtin.nextslicecap (n + m) cap * i.bytes) := by omega
  have h6 : ¬ (m * i.size = 0) := Nat.mul_ne_zero (by omega) (by omega)
  refine ⟨grownCap w (n + m) cap e, w.drew.alloc (.cells ((cur.take (n * i.size)).toArray ++ Builtin.zeroCells z.cells m ++ Builtin.zeroCells z.cells (grownCap w (n + m) cap e - (n + m))) e),
    (Builtin.zeroCells z.cells m).toList ++ (Builtin.zeroCells z.cells (grownCap w (n + m) cap e - (n + m))).toList, ?_, ?_, ?_, hge, hcm, (Keep.refl NoS w).drew.alloc _⟩
  · simp [Builtin.append_, run_underlying ht, run_underlying htn, sizeOf, typeInfo, zeroValue, hi, hz, asInt, asIntOf, hw, h1, h2, h3, h4, h5, h6, Question.forced, newRow, grownCap, Builtin.firstCells, hold']
  · unfold Row
    rw [show w.heap.size = w.drew.heap.size from rfl, heap_alloc_new]
    congr 2
    apply Array.ext'
    simp
  · simp only [List.length_append, List.length_take, Array.length_toList, size_zeroCells, hzs]
    rw [Nat.min_eq_left hn, ← Nat.add_mul, ← Nat.add_mul]
    congr 1; omega

theorem wp_growZeros {o : Oper} {a : Act} {w : World} {K : Act → World → Prop} {Q : Exit → Act → World → Prop} (s y : Operand) (t tn : TypeId) (ho : o.op = .call { callee := .builtin .append, args := #[s, y], argTypes := #[t, tn] })
    (e k bytes : Nat) (z : Value) (ht : P.underlying t = some (.slice e)) (htn : P.underlying tn = some (.int .i64)) (hinfo : (P.info? e).map (fun i => (i.zero, i.size, i.bytes)) = some (some z, k, bytes)) (hzs : z.cells.size = k) (hk0 : 0 < k)
    (g n cap m : Nat) (cur : List Value) (hv : a.eval s = .slice (some ⟨g, 0, none⟩) n cap) (hx : a.eval y = .int .i64 m) (h : Row w g e cur) (hn : n * k ≤ cur.length) (hgrow : cap < n + m) (hm : 0 < m) (h63 : n + m ≤ maxLen) (hbytes : (n + m) * bytes ≤ 140737488355328)
    (hK : ∀ c w' rest, Row w' w.heap.size e (cur.take (n * k) ++ rest) → (cur.take (n * k) ++ rest).length = c * k → n + m ≤ c → c ≤ maxLen → Keep NoS w w' → K (a.put o.dst (.slice (some ⟨w.heap.size, 0, none⟩) (n + m) c)) w') : o.wp P a w K Q := by
  obtain ⟨i, hi, hz, hsize, hby⟩ := info_parts hinfo
  obtain ⟨c, w', rest, hrun, q1, q2, q3, q4, q5⟩ := run_growZeros (P := P) w t tn o.type e i z k bytes ht htn hi hz hsize hby hzs hk0 h hn hgrow hm h63 hbytes
  unfold Oper.wp execOp
  simp only [ho, resolve, invoke, builtin, Sem.run_bind, Sem.run_pure, Result.andThen_ok, List.map_toArray, List.map_cons, List.map_nil, hv, hx, hrun]
  exact hK c w' rest q1 q2 q3 q4 q5

/-- a law on one operation, in the walk and in a region that draws -/
theorem in_list {ops : Array Oper} {rest : List Oper} {o : Oper} {a : Act} {w : World} {Q : Exit → Act → World → Prop} (hgd : o.guard = none)
    (h : ∀ K : Act → World → Prop, (∀ a w, wpList P ops Q rest a w → K a w) → o.wp P a w K Q) : wpList P ops Q (o :: rest) a w := wpList_plain hgd h
theorem in_step {ops : Array Oper} {o : Oper} {a : Act} {w : World} {K : Act → World → Prop} {Q : Exit → Act → World → Prop} {E : Prop} (hgd : o.guard = none) (h : o.wp P a w K Q) :
    if Region.wanted o (yielded ops a.tmps) = true then Oper.wp P o a w K Q else E := by
  rw [if_pos (by simp [Region.wanted, hgd])]; exact h
end

end Go.Proofs.Ytbldcbakhpdigaa
