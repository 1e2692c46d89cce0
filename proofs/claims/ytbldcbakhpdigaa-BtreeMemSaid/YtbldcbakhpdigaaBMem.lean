/- BtreeMem: the state of its loop. -/
import Derived.Test.YtbldcbakhpdigaaNil
namespace Go.Proofs.Ytbldcbakhpdigaa
open Go.RowKit

abbrev OpV := Int × ByteArray × ByteArray × Int
/-- v is a slice of those operations -/
def IsOps (w : World) (v : Value) (os : List OpV) : Prop := ∃ ao c, v = .slice ao os.length c ∧ os.length ≤ c ∧ c ≤ maxLen ∧
  ∀ i (_ : i < os.length), ∃ b o, ao = some ⟨b, o, none⟩ ∧ w.cell? ⟨b, o + i * 4, none⟩ = some (.int .u8 os[i].1) ∧ w.cell? ⟨b, o + i * 4 + 1, none⟩ = some (.string os[i].2.1) ∧ w.cell? ⟨b, o + i * 4 + 2, none⟩ = some (.string os[i].2.2.1) ∧ w.cell? ⟨b, o + i * 4 + 3, none⟩ = some (.int .i64 os[i].2.2.2)
theorem IsOps.at {w : World} {v : Value} {os : List OpV} {ao : Option Addr} {n c : Nat} (h : IsOps w v os) (hv : v = .slice ao n c) (i : Nat) (hi : i < os.length) :
    ∃ b o, ao = some ⟨b, o, none⟩ ∧ w.cell? ⟨b, o + i * 4, none⟩ = some (.int .u8 os[i].1) ∧ w.cell? ⟨b, o + i * 4 + 1, none⟩ = some (.string os[i].2.1) ∧ w.cell? ⟨b, o + i * 4 + 2, none⟩ = some (.string os[i].2.2.1) ∧ w.cell? ⟨b, o + i * 4 + 3, none⟩ = some (.int .i64 os[i].2.2.2) := by
  obtain ⟨ao', c', rfl, _, _, h6⟩ := h
  cases hv
  exact h6 i hi

/-- is the block taken? -/
def thereB (tk : List Bool) (b : Int) : Bool := decide (1 ≤ b) && (decide (b < tk.length) && tk.getD b.toNat false)

/-- the loop's state -/
structure MR (n : Nat) (w0 : World) (σ : MSt) (S : Nat → Prop) (mp : Nat) (v7 v8 : Value) (tk : List Bool) (da : List ByteArray) (wr : World) : Prop where
  inv : Inv σ S mp wr
  bel : Below w0.heap.size w0 wr
  hS : ∀ g, S g → w0.heap.size ≤ g
  t7 : OwnSl wr S w0.heap.size 4 1 v7 tk.length (tk.map .bool)
  t8 : OwnSl wr S w0.heap.size 9 1 v8 da.length (da.map .string)
  len : tk.length = da.length
  le : tk.length ≤ n + 1
  n4 : n ≤ 4096
  cnt : Maps.size σ.D = tk.count true
  zero : tk.getD 0 false = false
  most : σ.most = n
  held : σ.H = .map []
  has : ∀ b : Int, Maps.has σ.D (kI b) = thereB tk b
  mem : ∀ b : Int, thereB tk b = true → σ.mem b = (da.getD b.toNat ⟨#[]⟩).data.toList

theorem thereB_false {tk : List Bool} {b : Int} (h : ¬ (1 ≤ b) ∨ ¬ b < tk.length) : thereB tk b = false := by
  unfold thereB
  rcases h with h | h <;> simp [h]
theorem thereB_in {tk : List Bool} {b : Int} (h1 : 1 ≤ b) (h2 : b < tk.length) : ∃ h : b.toNat < tk.length, thereB tk b = tk[b.toNat] := by
  have h : b.toNat < tk.length := by omega
  exact ⟨h, by unfold thereB; simp [h1, h2, h]⟩
theorem thereB_lt {tk : List Bool} {b : Int} (h : thereB tk b = true) : 1 ≤ b ∧ b < tk.length := by
  unfold thereB at h
  simp at h
  exact ⟨h.1, h.2.1⟩
theorem thereB_set {tk : List Bool} (b : Int) (x : Bool) (h1 : 1 ≤ b) (h2 : b < tk.length) (c : Int) : thereB (tk.set b.toNat x) c = if c = b then x else thereB tk c := by
  by_cases hc : c = b
  · subst hc
    rw [if_pos rfl]
    have h : c.toNat < tk.length := by omega
    unfold thereB
    simp [h1, h2, h]
  · rw [if_neg hc]
    unfold thereB
    by_cases hc1 : 1 ≤ c
    · have hne : b.toNat ≠ c.toNat := by omega
      simp [hc1, hne]
    · simp [hc1]
theorem thereB_append {tk : List Bool} (k : Nat) (c : Int) : thereB (tk ++ List.replicate k false) c = thereB tk c := by
  unfold thereB
  by_cases hc1 : 1 ≤ c
  · by_cases hc2 : c < tk.length
    · have h : c.toNat < tk.length := by omega
      have h3 : c < (tk ++ List.replicate k false).length := by simp; omega
      simp only [hc1, hc2, h3, decide_true, Bool.true_and]
      simp [List.getElem?_append_left h]
    · have h : ¬ c.toNat < tk.length := by omega
      simp only [hc2, decide_false, Bool.false_and, Bool.and_false]
      have h4 : (tk ++ List.replicate k false).getD c.toNat false = false := by
        rw [List.getD_eq_getElem?_getD, List.getElem?_append_right (by omega), List.getElem?_replicate]
        split <;> rfl
      rw [h4]
      simp
  · simp [hc1]

theorem count_set (tk : List Bool) (i : Nat) (h : i < tk.length) (x : Bool) : (tk.set i x).count true + (if tk[i] = true then 1 else 0) = tk.count true + (if x = true then 1 else 0) := by
  induction tk generalizing i with
  | nil => simp at h
  | cons a tk ih =>
    cases i with
    | zero => cases a <;> cases x <;> simp
    | succ i =>
      have := ih i (by simpa using h)
      simp only [List.set_cons_succ, List.count_cons, List.getElem_cons_succ] at *
      omega
/-- with a block of the first n free, fewer than n are taken -/
theorem count_lt (tk : List Bool) (n f : Nat) (hl : tk.length ≤ n + 1) (h0 : tk.getD 0 false = false) (hf : 1 ≤ f) (hfn : f ≤ n) (ht : thereB tk f = false) : tk.count true < n := by
  by_cases hfl : f < tk.length
  · have h2 : tk[f] = false := by
      obtain ⟨hb, e⟩ := thereB_in (tk := tk) (b := (f : Int)) (by omega) (by omega)
      rw [ht] at e
      simpa using e.symm
    have hz : tk[0] = false := by
      have : 0 < tk.length := by omega
      simpa [List.getD_eq_getElem?_getD, List.getElem?_eq_getElem this] using h0
    have c1 := count_set tk f hfl true
    rw [h2] at c1
    have c2 := count_set (tk.set f true) 0 (by simp; omega) true
    have hz' : (tk.set f true)[0]'(by simp; omega) = false := by rw [List.getElem_set_ne (by omega)]; exact hz
    rw [hz'] at c2
    have c3 := List.count_le_length (a := true) (l := (tk.set f true).set 0 true)
    simp only [List.length_set] at c3
    simp at c1 c2
    omega
  · cases tk with
    | nil => simp; omega
    | cons a tk =>
      have : a = false := by simpa using h0
      subst this
      have c3 := List.count_le_length (a := true) (l := tk)
      simp at hfl hl ⊢
      omega
end Go.Proofs.Ytbldcbakhpdigaa
