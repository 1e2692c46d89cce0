/- What the nodes of the tree are, in plain Lean. No program in sight. -/
namespace Go.Proofs.Ytbldcbakhpdigaa

abbrev Pr := ByteArray × ByteArray

/-- a node: a leaf has pairs, an inner one kids and keys -/
structure Nd where
  pairs : List Pr
  keys : List ByteArray
  kids : List Int

def prSize (ps : List Pr) : Nat := (ps.map fun p => 2 + p.1.size + p.2.size).sum
def keySize (ks : List ByteArray) : Nat := (ks.map fun k => 1 + k.size).sum
def Nd.size (n : Nd) : Nat := 2 + prSize n.pairs + keySize n.keys + 2 * n.kids.length

theorem prSize_cons (p : Pr) (ps : List Pr) : prSize (p :: ps) = 2 + p.1.size + p.2.size + prSize ps := by simp [prSize]
theorem keySize_cons (k : ByteArray) (ks : List ByteArray) : keySize (k :: ks) = 1 + k.size + keySize ks := by simp [keySize]
theorem prSize_append (a b : List Pr) : prSize (a ++ b) = prSize a + prSize b := by simp [prSize]
theorem keySize_append (a b : List ByteArray) : keySize (a ++ b) = keySize a + keySize b := by simp [keySize]
theorem prSize_take (ps : List Pr) (i : Nat) (h : i < ps.length) : prSize (ps.take (i + 1)) = prSize (ps.take i) + (2 + ps[i].1.size + ps[i].2.size) := by
  rw [List.take_succ_eq_append_getElem h, prSize_append]; simp [prSize]
theorem keySize_take (ps : List ByteArray) (i : Nat) (h : i < ps.length) : keySize (ps.take (i + 1)) = keySize (ps.take i) + (1 + ps[i].size) := by
  rw [List.take_succ_eq_append_getElem h, keySize_append]; simp [keySize]
theorem prSize_take_le (ps : List Pr) (i : Nat) : prSize (ps.take i) ≤ prSize ps := by
  have := prSize_append (ps.take i) (ps.drop i); rw [List.take_append_drop] at this; omega
theorem keySize_take_le (ps : List ByteArray) (i : Nat) : keySize (ps.take i) ≤ keySize ps := by
  have := keySize_append (ps.take i) (ps.drop i); rw [List.take_append_drop] at this; omega
theorem length_le_prSize (ps : List Pr) : 2 * ps.length ≤ prSize ps := by
  induction ps with
  | nil => simp [prSize]
  | cons p ps ih => rw [prSize_cons]; simp; omega
theorem length_le_keySize (ps : List ByteArray) : ps.length ≤ keySize ps := by
  induction ps with
  | nil => simp [keySize]
  | cons p ps ih => rw [keySize_cons]; simp; omega

/-- a byte, as Go's byte(n) has it -/
def b8 (n : Nat) : UInt8 := UInt8.ofNat n
def encPr (p : Pr) : List UInt8 := [b8 p.1.size, b8 p.2.size] ++ p.1.data.toList ++ p.2.data.toList
def encKid (k : Int) : List UInt8 := [b8 k.toNat, b8 (k.toNat / 256)]
def encKey (k : ByteArray) : List UInt8 := b8 k.size :: k.data.toList
def encPrs (ps : List Pr) : List UInt8 := ps.flatMap encPr
def encKids (ks : List Int) : List UInt8 := ks.flatMap encKid
def encKeys (ks : List ByteArray) : List UInt8 := ks.flatMap encKey
/-- a node, laid into bytes -/
def Nd.enc (n : Nd) : List UInt8 := [b8 n.pairs.length, b8 n.kids.length] ++ encPrs n.pairs ++ encKids n.kids ++ encKeys n.keys

theorem take_succ_flatMap {α β : Type} (f : α → List β) (l : List α) (i : Nat) (h : i < l.length) : (l.take (i + 1)).flatMap f = (l.take i).flatMap f ++ f l[i] := by
  rw [List.take_succ_eq_append_getElem h, List.flatMap_append, List.flatMap_cons, List.flatMap_nil, List.append_nil]
theorem length_bytes (s : ByteArray) : s.data.toList.length = s.size := by rw [Array.length_toList]; rfl
theorem encPr_length (p : Pr) : (encPr p).length = 2 + p.1.size + p.2.size := by
  simp only [encPr, List.length_append, length_bytes, List.length_cons, List.length_nil]
theorem encPrs_length (ps : List Pr) : (encPrs ps).length = prSize ps := by
  induction ps with
  | nil => rfl
  | cons p ps ih => rw [prSize_cons]; simp only [encPrs, List.flatMap_cons, List.length_append, encPr_length] at *; omega
theorem encKids_length (ks : List Int) : (encKids ks).length = 2 * ks.length := by
  induction ks with
  | nil => rfl
  | cons p ps ih => simp only [encKids, List.flatMap_cons, List.length_append, encKid, List.length_cons, List.length_nil] at *; omega
theorem encKeys_length (ks : List ByteArray) : (encKeys ks).length = keySize ks := by
  induction ks with
  | nil => rfl
  | cons p ps ih => rw [keySize_cons]; simp only [encKeys, List.flatMap_cons, List.length_append, encKey, List.length_cons, length_bytes] at *; omega
theorem Nd.enc_length (n : Nd) : n.enc.length = n.size := by
  simp only [Nd.enc, Nd.size, List.length_append, encPrs_length, encKids_length, encKeys_length, List.length_cons, List.length_nil]; omega

/-- a node that its bytes tell -/
structure Nd.Fits (n : Nd) : Prop where
  np : n.pairs.length < 256
  nk : n.kids.length < 256
  pr : ∀ p ∈ n.pairs, p.1.size < 256 ∧ p.2.size < 256
  ky : ∀ k ∈ n.keys, k.size < 256
  kd : ∀ k ∈ n.kids, 0 ≤ k ∧ k < 65536
  kk : n.keys.length = n.kids.length - 1
  one : n.pairs = [] ↔ n.kids ≠ []

theorem b8_toNat (n : Nat) (h : n < 256) : (b8 n).toNat = n := by simp [b8]; omega
theorem drop_flatMap {α β : Type} (f : α → List β) (l : List α) (i : Nat) (h : i < l.length) : (l.drop i).flatMap f = f l[i] ++ (l.drop (i + 1)).flatMap f := by
  rw [List.drop_eq_getElem_cons h, List.flatMap_cons]

end Go.Proofs.Ytbldcbakhpdigaa
