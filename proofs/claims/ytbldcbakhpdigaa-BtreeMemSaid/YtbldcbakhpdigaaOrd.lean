/- The order of strings, byte by byte. No program in sight. -/
import Derived.Lib.Bytealg
import GoSem.Op.String
namespace Go.Proofs.Ytbldcbakhpdigaa

/-- a comes before b -/
def lt (a b : ByteArray) : Bool := Op.bytesLess a.toList b.toList

theorem bl_irrefl : ∀ l : List UInt8, Op.bytesLess l l = false
  | [] => rfl
  | a :: l => by simp [Op.bytesLess, bl_irrefl l]
theorem bl_trans : ∀ a b c : List UInt8, Op.bytesLess a b = true → Op.bytesLess b c = true → Op.bytesLess a c = true
  | _, [], _ => by simp [Op.bytesLess]
  | _, _ :: _, [] => by simp [Op.bytesLess]
  | [], _ :: _, _ :: _ => by simp [Op.bytesLess]
  | x :: a, y :: b, z :: c => by
    have ih := bl_trans a b c
    simp only [Op.bytesLess, Bool.or_eq_true, Bool.and_eq_true, decide_eq_true_eq, beq_iff_eq]
    rintro (h | ⟨rfl, h⟩) (k | ⟨rfl, k⟩)
    · exact .inl (UInt8.lt_trans h k)
    · exact .inl h
    · exact .inl k
    · exact .inr ⟨rfl, ih h k⟩
theorem bl_total : ∀ a b : List UInt8, Op.bytesLess a b = false → Op.bytesLess b a = false → a = b
  | [], [] => fun _ _ => rfl
  | [], _ :: _ => by simp [Op.bytesLess]
  | _ :: _, [] => by simp [Op.bytesLess]
  | x :: a, y :: b => by
    have ih := bl_total a b
    simp only [Op.bytesLess, Bool.or_eq_false_iff, Bool.and_eq_false_iff, decide_eq_false_iff_not, beq_eq_false_iff_ne]
    rintro ⟨h1, h2⟩ ⟨k1, k2⟩
    have e : x = y := by
      apply UInt8.toNat_inj.1
      rw [UInt8.lt_iff_toNat_lt] at h1 k1
      omega
    subst e
    rw [ih (by simpa using h2) (by simpa using k2)]
theorem toList_eq (a : ByteArray) : a.toList = a.data.toList := ByteArray.toList_eq a
theorem toList_inj {a b : ByteArray} (h : a.toList = b.toList) : a = b := by
  rw [toList_eq, toList_eq] at h
  cases a; cases b; congr; exact Array.ext' h

theorem lt_irrefl (a : ByteArray) : lt a a = false := bl_irrefl _
theorem lt_trans {a b c : ByteArray} (h : lt a b = true) (k : lt b c = true) : lt a c = true := bl_trans _ _ _ h k
theorem lt_total {a b : ByteArray} (h : lt a b = false) (k : lt b a = false) : a = b := toList_inj (bl_total _ _ h k)
theorem lt_asymm {a b : ByteArray} (h : lt a b = true) : lt b a = false := by
  cases hb : lt b a with
  | false => rfl
  | true => have := lt_trans h hb; rw [lt_irrefl] at this; cases this
theorem lt_ne {a b : ByteArray} (h : lt a b = true) : a ≠ b := by rintro rfl; rw [lt_irrefl] at h; cases h
/-- a is not behind b, b before c -/
theorem le_lt {a b c : ByteArray} (h : lt b a = false) (k : lt b c = true) : lt a c = true := by
  cases hab : lt a b with
  | true => exact lt_trans hab k
  | false => rw [lt_total hab h]; exact k
theorem lt_le {a b c : ByteArray} (h : lt a b = true) (k : lt c b = false) : lt a c = true := by
  cases hbc : lt b c with
  | true => exact lt_trans h hbc
  | false => rw [← lt_total hbc k]; exact h
theorem le_le {a b c : ByteArray} (h : lt b a = false) (k : lt c b = false) : lt c a = false := by
  cases hca : lt c a with
  | false => rfl
  | true => have := lt_le hca h; rw [k] at this; cases this

theorem cmp_facts : ∀ a b : List UInt8, (Lib.compareBytes a b < 0 ↔ Op.bytesLess a b = true) ∧ (Lib.compareBytes a b = 0 ↔ a = b)
  | [], [] => by simp [Lib.compareBytes, Op.bytesLess]
  | [], _ :: _ => by simp [Lib.compareBytes, Op.bytesLess]
  | _ :: _, [] => by simp [Lib.compareBytes, Op.bytesLess]
  | x :: a, y :: b => by
    have ih := cmp_facts a b
    unfold Lib.compareBytes Op.bytesLess
    by_cases h1 : x < y
    · have hne : x ≠ y := by rintro rfl; exact absurd h1 (UInt8.lt_irrefl _)
      simp [h1, hne]
    · rw [if_neg h1]
      by_cases h2 : y < x
      · rw [if_pos h2]
        have hne : x ≠ y := by rintro rfl; exact UInt8.lt_irrefl _ h2
        simp [h1, hne]
      · rw [if_neg h2]
        have e : x = y := by
          apply UInt8.toNat_inj.1
          rw [UInt8.lt_iff_toNat_lt] at h1 h2
          omega
        subst e
        simp [UInt8.lt_irrefl, ih]

/-- what strings.Compare gives -/
def cmpS (a b : ByteArray) : Int := Lib.compareBytes a.data.toList b.data.toList
theorem cmpS_neg (a b : ByteArray) : cmpS a b < 0 ↔ lt a b = true := by
  unfold cmpS lt; rw [toList_eq, toList_eq]; exact (cmp_facts _ _).1
theorem cmpS_zero (a b : ByteArray) : cmpS a b = 0 ↔ a = b := by
  unfold cmpS; rw [(cmp_facts _ _).2]
  exact ⟨fun h => toList_inj (by rw [toList_eq, toList_eq]; exact h), fun h => by rw [h]⟩

/-- Go's '>' on strings, as the walk spells it -/
theorem gtr_eq (a b : ByteArray) : (!Op.bytesLess a.toList b.toList && !(a.toList == b.toList)) = lt b a := by
  show (!lt a b && !(a.toList == b.toList)) = lt b a
  cases h : lt b a with
  | true =>
    rw [lt_asymm h]
    have : (a.toList == b.toList) = false := by rw [beq_eq_false_iff_ne]; intro e; exact lt_ne h (toList_inj e.symm)
    rw [this]; rfl
  | false =>
    cases h2 : lt a b with
    | true => rfl
    | false => rw [lt_total h2 h]; simp

/-- how many keys are not behind a key: the place of the kid in which it lies -/
def kidAt (keys : List ByteArray) (key : ByteArray) : Nat := (keys.takeWhile fun k => !lt key k).length
/-- the keys rise -/
def Rising (keys : List ByteArray) : Prop := keys.Pairwise fun a b => lt a b = true

theorem kidAt_le (keys : List ByteArray) (key : ByteArray) : kidAt keys key ≤ keys.length := by
  unfold kidAt
  exact (List.takeWhile_sublist _).length_le
theorem kidAt_facts (key : ByteArray) : ∀ (keys : List ByteArray), Rising keys →
    (∀ i (h : i < keys.length), i < kidAt keys key → lt key keys[i] = false) ∧ (∀ i (h : i < keys.length), kidAt keys key ≤ i → lt key keys[i] = true)
  | [], _ => ⟨fun i h => absurd h (by simp), fun i h => absurd h (by simp)⟩
  | k :: keys, hr => by
    have hr' := List.pairwise_cons.1 hr
    have ih := kidAt_facts key keys hr'.2
    cases hk : lt key k with
    | true =>
      have e : kidAt (k :: keys) key = 0 := by simp [kidAt, hk]
      rw [e]
      refine ⟨fun i _ h => absurd h (by omega), fun i h _ => ?_⟩
      cases i with
      | zero => exact hk
      | succ i => exact lt_trans hk (hr'.1 _ (List.getElem_mem (by simpa using h)))
    | false =>
      have e : kidAt (k :: keys) key = kidAt keys key + 1 := by simp [kidAt, hk]
      rw [e]
      refine ⟨fun i h hi => ?_, fun i h hi => ?_⟩
      · cases i with
        | zero => exact hk
        | succ i => exact ih.1 i (by simpa using h) (by omega)
      · cases i with
        | zero => omega
        | succ i => exact ih.2 i (by simpa using h) (by omega)

/-- how many pairs come before a key -/
def posAt (ps : List (ByteArray × ByteArray)) (key : ByteArray) : Nat := (ps.takeWhile fun p => lt p.1 key).length
/-- the pairs rise -/
def RisingP (ps : List (ByteArray × ByteArray)) : Prop := ps.Pairwise fun a b => lt a.1 b.1 = true
theorem posAt_le (ps : List (ByteArray × ByteArray)) (key : ByteArray) : posAt ps key ≤ ps.length := by
  unfold posAt
  exact (List.takeWhile_sublist _).length_le
theorem posAt_facts (key : ByteArray) : ∀ (ps : List (ByteArray × ByteArray)), RisingP ps →
    (∀ i (h : i < ps.length), i < posAt ps key → lt ps[i].1 key = true) ∧ (∀ i (h : i < ps.length), posAt ps key ≤ i → lt ps[i].1 key = false)
  | [], _ => ⟨fun i h => absurd h (by simp), fun i h => absurd h (by simp)⟩
  | k :: ps, hr => by
    have hr' := List.pairwise_cons.1 hr
    have ih := posAt_facts key ps hr'.2
    cases hk : lt k.1 key with
    | false =>
      have e : posAt (k :: ps) key = 0 := by simp [posAt, hk]
      rw [e]
      refine ⟨fun i _ h => absurd h (by omega), fun i h _ => ?_⟩
      cases i with
      | zero => exact hk
      | succ i =>
        cases h2 : lt (k :: ps)[i + 1].1 key with
        | false => rfl
        | true => have := lt_trans (hr'.1 _ (List.getElem_mem (by simpa using h))) h2; rw [hk] at this; cases this
    | true =>
      have e : posAt (k :: ps) key = posAt ps key + 1 := by simp [posAt, hk]
      rw [e]
      refine ⟨fun i h hi => ?_, fun i h hi => ?_⟩
      · cases i with
        | zero => exact hk
        | succ i => exact ih.1 i (by simpa using h) (by omega)
      · cases i with
        | zero => omega
        | succ i => exact ih.2 i (by simpa using h) (by omega)
/-- is the key there? -/
def isAt (ps : List (ByteArray × ByteArray)) (key : ByteArray) : Bool := match ps[posAt ps key]? with | some p => decide (p.1 = key) | none => false

end Go.Proofs.Ytbldcbakhpdigaa
