/- spread: a node into one block, or more. -/
import Derived.Test.YtbldcbakhpdigaaWrite
namespace Go.Proofs.Ytbldcbakhpdigaa
open Go.RowKit

/-- a node whose parts are in their bounds -/
structure Nd.Ok (nd : Nd) : Prop where
  pr : ∀ p ∈ nd.pairs, p.1.size ≤ 128 ∧ p.2.size ≤ 64
  ky : ∀ k ∈ nd.keys, k.size ≤ 128
  kd : ∀ k ∈ nd.kids, 1 ≤ k ∧ k ≤ 4096
  kk : nd.keys.length = nd.kids.length - 1
  one : nd.kids ≠ [] → nd.pairs = []
  np : nd.pairs.length ≤ 2000
  nk : nd.kids.length ≤ 2000

theorem prSize_most (ps : List Pr) (h : ∀ p ∈ ps, p.1.size ≤ 128 ∧ p.2.size ≤ 64) : prSize ps ≤ 194 * ps.length := by
  induction ps with
  | nil => exact Nat.zero_le _
  | cons p ps ih =>
    have h1 := h p (by simp)
    have := ih (fun q hq => h q (by simp [hq]))
    rw [prSize_cons, List.length_cons]; omega
theorem keySize_most (ps : List ByteArray) (h : ∀ p ∈ ps, p.size ≤ 128) : keySize ps ≤ 129 * ps.length := by
  induction ps with
  | nil => exact Nat.zero_le _
  | cons p ps ih =>
    have h1 := h p (by simp)
    have := ih (fun q hq => h q (by simp [hq]))
    rw [keySize_cons, List.length_cons]; omega
theorem Nd.Ok.size_le {nd : Nd} (h : nd.Ok) : nd.size ≤ 1000000 := by
  have h1 := prSize_most _ h.pr
  have h2 := keySize_most _ h.ky
  have h3 := h.np
  have h4 := h.nk
  have h5 := h.kk
  unfold Nd.size
  omega
theorem Nd.Ok.fits {nd : Nd} (h : nd.Ok) (hs : nd.size ≤ 512) (hne : nd.kids ≠ [] ∨ nd.pairs ≠ []) : nd.Fits := by
  have h1 := length_le_prSize nd.pairs
  have h2 := length_le_keySize nd.keys
  unfold Nd.size at hs
  refine ⟨by omega, by omega, fun p hp => ?_, fun k hk => ?_, fun k hk => ?_, h.kk, ?_, ?_⟩
  · have := h.pr p hp; omega
  · have := h.ky k hk; omega
  · have := h.kd k hk; omega
  · intro hp hk; exact hne.elim (fun x => x hk) (fun x => x hp)
  · intro hk; exact h.one hk

/-- what spread makes of a node: the nodes it writes, each with its least key -/
inductive Spr : Nd → ByteArray → List (ByteArray × Nd) → Prop
  | none {nd l} : nd.kids = [] → nd.pairs = [] → Spr nd l []
  | one {nd l} : (nd.kids ≠ [] ∨ nd.pairs ≠ []) → nd.size ≤ 512 → Spr nd l [(leastOf nd l, nd)]
  | leaf {nd l} (i : Nat) (hi : i < nd.pairs.length) {A B} : nd.kids = [] → 512 < nd.size → 1 ≤ i → Spr ⟨nd.pairs.take i, [], []⟩ l A → Spr ⟨nd.pairs.drop i, [], []⟩ (leastOf ⟨nd.pairs.drop i, [], []⟩ nd.pairs[i].1) B → Spr nd l (A ++ B)
  | inner {nd l} (i : Nat) (hi : i - 1 < nd.keys.length) {A B} : nd.kids ≠ [] → 512 < nd.size → i = nd.kids.length / 2 → Spr ⟨[], nd.keys.take (i - 1), nd.kids.take i⟩ l A → Spr ⟨[], nd.keys.drop i, nd.kids.drop i⟩ (leastOf ⟨[], nd.keys.drop i, nd.kids.drop i⟩ nd.keys[i - 1]) B → Spr nd l (A ++ B)

/-- the nodes come into the store, each into a new block -/
def Puts : MSt → List Pc → List (ByteArray × Nd) → MSt → Prop
  | σ, [], [], σ' => σ' = σ
  | σ, p :: ps, z :: zs, σ' => ∃ σ1, p.2 = z.1 ∧ Wrote σ p.1 z.2 σ1 ∧ Puts σ1 ps zs σ'
  | _, _, _, _ => False

theorem Puts.append {σ σ1 σ2 : MSt} {ps qs : List Pc} {zs ys : List (ByteArray × Nd)} (h : Puts σ ps zs σ1) (k : Puts σ1 qs ys σ2) : Puts σ (ps ++ qs) (zs ++ ys) σ2 := by
  induction ps generalizing σ zs with
  | nil =>
    cases zs with
    | nil => cases h; exact k
    | cons z zs => exact absurd h id
  | cons p ps ih =>
    cases zs with
    | nil => exact absurd h id
    | cons z zs =>
      obtain ⟨τ, h1, h2, h3⟩ := h
      exact ⟨τ, h1, h2, ih h3⟩
theorem Puts.length {σ σ1 : MSt} {ps : List Pc} {zs : List (ByteArray × Nd)} (h : Puts σ ps zs σ1) : ps.length = zs.length ∧ Maps.size σ1.D = Maps.size σ.D + zs.length ∧ σ1.most = σ.most ∧ σ1.H = σ.H := by
  induction ps generalizing σ zs with
  | nil =>
    cases zs with
    | nil => cases h; exact ⟨rfl, rfl, rfl, rfl⟩
    | cons z zs => exact absurd h id
  | cons p ps ih =>
    cases zs with
    | nil => exact absurd h id
    | cons z zs =>
      obtain ⟨τ, h1, h2, h3⟩ := h
      have := ih h3
      have s := h2.size
      refine ⟨by simp [this.1], by rw [this.2.1, List.length_cons]; omega, this.2.2.1.trans h2.most, this.2.2.2.trans h2.held⟩

def Nd.room (nd : Nd) : Nat := nd.pairs.length + (if nd.kids = [] then 0 else max 1 (nd.kids.length / 2))

/-- an overfull node has three pairs, or five kids -/
theorem Nd.Ok.big {nd : Nd} (h : nd.Ok) (hs : 512 < nd.size) : (nd.kids = [] → 3 ≤ nd.pairs.length) ∧ (nd.kids ≠ [] → 5 ≤ nd.kids.length) := by
  have h1 := prSize_most _ h.pr
  have h2 := keySize_most _ h.ky
  have h5 := h.kk
  unfold Nd.size at hs
  constructor
  · intro hk
    rw [hk] at h5 hs
    simp only [List.length_nil] at h5 hs
    rw [h5] at h2
    omega
  · intro hk
    have hp := h.one hk
    rw [hp] at h1 hs
    simp only [List.length_nil] at h1
    omega

theorem Nd.Ok.left {nd : Nd} (h : nd.Ok) (i : Nat) (_hk : nd.kids = []) : Nd.Ok ⟨nd.pairs.take i, [], []⟩ :=
  ⟨fun p hp => h.pr p (List.mem_of_mem_take hp), by simp, by simp, rfl, by simp, by have := h.np; simp only [List.length_take]; omega, by simp⟩
theorem Nd.Ok.right {nd : Nd} (h : nd.Ok) (i : Nat) (_hk : nd.kids = []) : Nd.Ok ⟨nd.pairs.drop i, [], []⟩ :=
  ⟨fun p hp => h.pr p (List.mem_of_mem_drop hp), by simp, by simp, rfl, by simp, by have := h.np; simp; omega, by simp⟩
theorem Nd.Ok.leftI {nd : Nd} (h : nd.Ok) (i : Nat) (hi : i ≤ nd.kids.length) : Nd.Ok ⟨[], nd.keys.take (i - 1), nd.kids.take i⟩ :=
  ⟨by simp, fun k hk => h.ky k (List.mem_of_mem_take hk), fun k hk => h.kd k (List.mem_of_mem_take hk), by have := h.kk; simp; omega, by simp, by simp, by have := h.nk; simp; omega⟩
theorem Nd.Ok.rightI {nd : Nd} (h : nd.Ok) (i : Nat) : Nd.Ok ⟨[], nd.keys.drop i, nd.kids.drop i⟩ :=
  ⟨by simp, fun k hk => h.ky k (List.mem_of_mem_drop hk), fun k hk => h.kd k (List.mem_of_mem_drop hk), by have := h.kk; simp; omega, by simp, by simp, by have := h.nk; simp; omega⟩

theorem Spr.room {nd : Nd} {l : ByteArray} {zs : List (ByteArray × Nd)} (h : Spr nd l zs) (ok : nd.Ok) : zs.length ≤ nd.room := by
  induction h with
  | none h1 h2 => simp
  | @one nd l h1 h2 =>
    unfold Nd.room
    rcases h1 with h1 | h1
    · rw [if_neg h1]; simp; omega
    · have := List.length_pos_iff.2 h1; simp; omega
  | @leaf nd l i hi A B hk hs hi1 _ _ iha ihb =>
    have a := iha (ok.left i hk)
    have b := ihb (ok.right i hk)
    unfold Nd.room at *
    rw [hk]
    simp at *
    omega
  | @inner nd l i hi A B hk hs hi1 _ _ iha ihb =>
    have a := iha (ok.leftI i (by omega))
    have b := ihb (ok.rightI i)
    have h5 := (ok.big hs).2 hk
    unfold Nd.room at *
    have n1 : nd.kids.take i ≠ [] := fun e => by have := congrArg List.length e; simp only [List.length_take, List.length_nil] at this; omega
    have n2 : nd.kids.drop i ≠ [] := fun e => by have := congrArg List.length e; simp only [List.length_drop, List.length_nil] at this; omega
    rw [if_neg n1] at a
    rw [if_neg n2] at b
    rw [if_neg hk]
    simp only [List.length_take, List.length_drop, List.length_nil, List.length_append] at *
    omega
end Go.Proofs.Ytbldcbakhpdigaa
