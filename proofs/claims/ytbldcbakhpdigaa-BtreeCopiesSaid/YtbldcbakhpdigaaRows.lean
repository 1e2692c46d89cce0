/-
  No cell of these rows narrows 'for every input' (looked for: loops, veiled, ifaces, maps, wideKeys, modest, calm, conditions, laid).
  DERIVED. THE GIVEN ROWS OF THIS SEAT. 6 by the template 'for every input the law returns true; each argument reads behind the call as it read before'; 0 by the template 'total and deterministic' (their statements: YtbldcbakhpdigaaTotals.lean).
  GIVEN WITH THE SEED: the statements are not yours to turn. If you find one false, say at which input.
  Laid BY PROGRAM, IN A SANDBOX (cutbox-rows.mjs): the forced cells as the released guide's own fill.sh prints them over the translation 33e6780d15851151… (all of the seat's roots in one cut). By AI agents, Wed Nov 11 2026. No macro, syntax, notation, axiom, sorry.
-/
import Derived.Test.YtbldcbakhpdigaaChecked
import GoSem.Claim
import GoSem.ClaimJoined
import GoSem.ClaimMapViews
import Derived.JoinedTies
import Derived.KernelRfl
namespace Go.Proofs.Ytbldcbakhpdigaa
/- THE CELL 'sum', in the pinned program and in every row, IS THE sha256 OF THE DUMP (.gsa) THAT YtbldcbakhpdigaaProg.lean LOADS. Nothing in Lean hashes anything: it is a label: what it is worth is what the hold of that sum in a sandbox is worth. -/
noncomputable def Try.pinned : Pinned := { name := "ytbldcbakhpdigaa", sum := "33e6780d15851151fc9a8eb93fa145f67aab6d6bd88230ce91cf16b4244af4f4", checked := Try.checked }
namespace Rows
def none {H : Type} : Left H := { results := [], args := [] }

/-- 'docketlaw06.BtreeMem': WHATEVER THE INPUT: true; the input reads as it did. -/
def btreeMemSpec : ChangeSpec := { name := "btreeMem", fn := fun _ => fun
  | [d1, d2] => { results := [.lit (.bool true)], args := [d1, d2] }
  | _ => none }
def btreeMemRow : OpenClaim := { program := "ytbldcbakhpdigaa", sum := "33e6780d15851151fc9a8eb93fa145f67aab6d6bd88230ce91cf16b4244af4f4", func := "docket/docketlaw06.BtreeMem", spec := "btreeMem", inPlace := ["internal/bytealg.abigen_runtime_cmpstring", "slices.overlaps[docket/api.Pair]", "slices.overlaps[string]", "slices.overlaps[int]"], unfollowed := true, recurses := true, apart := false }
def BtreeMemSaid : Prop := btreeMemRow.holds Try.pinned (OpenSpec.ofChange btreeMemSpec)

/-- ITS FALSE NEIGHBOUR: 'it returns false'. Refute it at one input. -/
def btreeMemWrong : ChangeSpec := { name := "btreeMem", fn := fun _ => fun
  | [d1, d2] => { results := [.lit (.bool false)], args := [d1, d2] }
  | _ => none }
def BtreeMemWrongFalsely : Prop := btreeMemRow.holds Try.pinned (OpenSpec.ofChange btreeMemWrong)

/-- 'docketlaw06.BtreeOrder': WHATEVER THE INPUT: true; the input reads as it did. -/
def btreeOrderSpec : ChangeSpec := { name := "btreeOrder", fn := fun _ => fun
  | [d] => { results := [.lit (.bool true)], args := [d] }
  | _ => none }
def btreeOrderRow : OpenClaim := { program := "ytbldcbakhpdigaa", sum := "33e6780d15851151fc9a8eb93fa145f67aab6d6bd88230ce91cf16b4244af4f4", func := "docket/docketlaw06.BtreeOrder", spec := "btreeOrder", inPlace := ["internal/bytealg.abigen_runtime_cmpstring", "slices.overlaps[docket/api.Pair]", "slices.overlaps[string]", "slices.overlaps[int]"], unfollowed := true, recurses := true, apart := false }
def BtreeOrderSaid : Prop := btreeOrderRow.holds Try.pinned (OpenSpec.ofChange btreeOrderSpec)

/-- ITS FALSE NEIGHBOUR: 'it returns false'. Refute it at one input. -/
def btreeOrderWrong : ChangeSpec := { name := "btreeOrder", fn := fun _ => fun
  | [d] => { results := [.lit (.bool false)], args := [d] }
  | _ => none }
def BtreeOrderWrongFalsely : Prop := btreeOrderRow.holds Try.pinned (OpenSpec.ofChange btreeOrderWrong)

/-- 'docketlaw06.BtreePages': WHATEVER THE INPUT: true; the input reads as it did. -/
def btreePagesSpec : ChangeSpec := { name := "btreePages", fn := fun _ => fun
  | [d1, d2] => { results := [.lit (.bool true)], args := [d1, d2] }
  | _ => none }
def btreePagesRow : OpenClaim := { program := "ytbldcbakhpdigaa", sum := "33e6780d15851151fc9a8eb93fa145f67aab6d6bd88230ce91cf16b4244af4f4", func := "docket/docketlaw06.BtreePages", spec := "btreePages", inPlace := ["internal/bytealg.abigen_runtime_cmpstring", "slices.overlaps[docket/api.Pair]", "slices.overlaps[string]", "slices.overlaps[int]"], unfollowed := true, recurses := true, apart := false }
def BtreePagesSaid : Prop := btreePagesRow.holds Try.pinned (OpenSpec.ofChange btreePagesSpec)

/-- ITS FALSE NEIGHBOUR: 'it returns false'. Refute it at one input. -/
def btreePagesWrong : ChangeSpec := { name := "btreePages", fn := fun _ => fun
  | [d1, d2] => { results := [.lit (.bool false)], args := [d1, d2] }
  | _ => none }
def BtreePagesWrongFalsely : Prop := btreePagesRow.holds Try.pinned (OpenSpec.ofChange btreePagesWrong)

/-- 'docketlaw06.BtreeEmpty': WHATEVER THE INPUT: true; the input reads as it did. -/
def btreeEmptySpec : ChangeSpec := { name := "btreeEmpty", fn := fun _ => fun
  | [d1, d2] => { results := [.lit (.bool true)], args := [d1, d2] }
  | _ => none }
def btreeEmptyRow : OpenClaim := { program := "ytbldcbakhpdigaa", sum := "33e6780d15851151fc9a8eb93fa145f67aab6d6bd88230ce91cf16b4244af4f4", func := "docket/docketlaw06.BtreeEmpty", spec := "btreeEmpty", inPlace := ["internal/bytealg.abigen_runtime_cmpstring", "slices.overlaps[docket/api.Pair]", "slices.overlaps[string]", "slices.overlaps[int]"], unfollowed := true, recurses := true, apart := false }
def BtreeEmptySaid : Prop := btreeEmptyRow.holds Try.pinned (OpenSpec.ofChange btreeEmptySpec)

/-- ITS FALSE NEIGHBOUR: 'it returns false'. Refute it at one input. -/
def btreeEmptyWrong : ChangeSpec := { name := "btreeEmpty", fn := fun _ => fun
  | [d1, d2] => { results := [.lit (.bool false)], args := [d1, d2] }
  | _ => none }
def BtreeEmptyWrongFalsely : Prop := btreeEmptyRow.holds Try.pinned (OpenSpec.ofChange btreeEmptyWrong)

/-- 'docketlaw06.BtreeCopies': WHATEVER THE INPUT: true; the input reads as it did. -/
def btreeCopiesSpec : ChangeSpec := { name := "btreeCopies", fn := fun _ => fun
  | [d1, d2] => { results := [.lit (.bool true)], args := [d1, d2] }
  | _ => none }
def btreeCopiesRow : OpenClaim := { program := "ytbldcbakhpdigaa", sum := "33e6780d15851151fc9a8eb93fa145f67aab6d6bd88230ce91cf16b4244af4f4", func := "docket/docketlaw06.BtreeCopies", spec := "btreeCopies", inPlace := ["internal/bytealg.abigen_runtime_cmpstring", "slices.overlaps[docket/api.Pair]", "slices.overlaps[string]", "slices.overlaps[int]"], unfollowed := true, recurses := true, apart := false }
def BtreeCopiesSaid : Prop := btreeCopiesRow.holds Try.pinned (OpenSpec.ofChange btreeCopiesSpec)

/-- ITS FALSE NEIGHBOUR: 'it returns false'. Refute it at one input. -/
def btreeCopiesWrong : ChangeSpec := { name := "btreeCopies", fn := fun _ => fun
  | [d1, d2] => { results := [.lit (.bool false)], args := [d1, d2] }
  | _ => none }
def BtreeCopiesWrongFalsely : Prop := btreeCopiesRow.holds Try.pinned (OpenSpec.ofChange btreeCopiesWrong)

/-- 'docketlaw06.BtreeNone': WHATEVER THE INPUT: true; the input reads as it did. -/
def btreeNoneSpec : ChangeSpec := { name := "btreeNone", fn := fun _ => fun
  | [d] => { results := [.lit (.bool true)], args := [d] }
  | _ => none }
def btreeNoneRow : OpenClaim := { program := "ytbldcbakhpdigaa", sum := "33e6780d15851151fc9a8eb93fa145f67aab6d6bd88230ce91cf16b4244af4f4", func := "docket/docketlaw06.BtreeNone", spec := "btreeNone", inPlace := ["internal/bytealg.abigen_runtime_cmpstring", "slices.overlaps[docket/api.Pair]", "slices.overlaps[string]", "slices.overlaps[int]"], unfollowed := true, recurses := true, apart := false }
def BtreeNoneSaid : Prop := btreeNoneRow.holds Try.pinned (OpenSpec.ofChange btreeNoneSpec)

/-- ITS FALSE NEIGHBOUR: 'it returns false'. Refute it at one input. -/
def btreeNoneWrong : ChangeSpec := { name := "btreeNone", fn := fun _ => fun
  | [d] => { results := [.lit (.bool false)], args := [d] }
  | _ => none }
def BtreeNoneWrongFalsely : Prop := btreeNoneRow.holds Try.pinned (OpenSpec.ofChange btreeNoneWrong)

/- THE SECOND FORM. 'bulk': how many values and letters a reading holds, each counted each time it is reached (what is shared counts as often as it is met; a slice's spare places count too). A statement '..UptoSaid' is the law's where the arguments, and the package variables that the reading takes, are together of bulk at most 1048576: NARROWER than '..Said'. Prove '..Said' where nothing that the law and all that it calls make is longer than what came in: it says more and counts as full. Else prove '..UptoSaid'. A law counts once. -/
mutual
def uptoBulk {H : Type} : DataW H → Nat
  | .lit (.string bytes) => bytes.length + 1
  | .lit _ => 1
  | .nil => 1
  | .ptr d => uptoBulk d + 1
  | .slice elems spare => uptoBulkAll elems + uptoBulkAll spare + 1
  | .agg parts => uptoBulkAll parts + 1
  | .iface _ d => uptoBulk d + 1
  | .map entries => uptoBulkEntries entries + 1
  | .held _ => 1
def uptoBulkAll {H : Type} : List (DataW H) → Nat
  | [] => 0
  | d :: r => uptoBulk d + uptoBulkAll r
def uptoBulkEntries {H : Type} : List (Lit × DataW H) → Nat
  | [] => 0
  | x :: r => uptoBulkEntry x + uptoBulkEntries r
def uptoBulkEntry {H : Type} : Lit × DataW H → Nat
  | (.string bytes, d) => bytes.length + uptoBulk d + 1
  | (_, d) => uptoBulk d + 1
 end
def uptoSmall : (H : Type) → List (DataW H) → Bool := fun _ ds => decide (uptoBulkAll ds ≤ 1048576)
def OpenSpec.upto (s : _root_.Go.ChangeSpec) : _root_.Go.OpenSpec := { _root_.Go.OpenSpec.ofChange s with cond := some uptoSmall }

/-- 'docketlaw06.BtreeMem', WHERE WHAT IT READS IS OF BULK AT MOST 1048576: true; the input reads as it did. -/
def btreeMemUptoRow : OpenClaim := { program := "ytbldcbakhpdigaa", sum := "33e6780d15851151fc9a8eb93fa145f67aab6d6bd88230ce91cf16b4244af4f4", func := "docket/docketlaw06.BtreeMem", spec := "btreeMem", inPlace := ["internal/bytealg.abigen_runtime_cmpstring", "slices.overlaps[docket/api.Pair]", "slices.overlaps[string]", "slices.overlaps[int]"], unfollowed := true, recurses := true, apart := false, narrowed := true }
def BtreeMemUptoSaid : Prop := btreeMemUptoRow.holds Try.pinned (OpenSpec.upto btreeMemSpec)

/-- 'docketlaw06.BtreeOrder', WHERE WHAT IT READS IS OF BULK AT MOST 1048576: true; the input reads as it did. -/
def btreeOrderUptoRow : OpenClaim := { program := "ytbldcbakhpdigaa", sum := "33e6780d15851151fc9a8eb93fa145f67aab6d6bd88230ce91cf16b4244af4f4", func := "docket/docketlaw06.BtreeOrder", spec := "btreeOrder", inPlace := ["internal/bytealg.abigen_runtime_cmpstring", "slices.overlaps[docket/api.Pair]", "slices.overlaps[string]", "slices.overlaps[int]"], unfollowed := true, recurses := true, apart := false, narrowed := true }
def BtreeOrderUptoSaid : Prop := btreeOrderUptoRow.holds Try.pinned (OpenSpec.upto btreeOrderSpec)

/-- 'docketlaw06.BtreePages', WHERE WHAT IT READS IS OF BULK AT MOST 1048576: true; the input reads as it did. -/
def btreePagesUptoRow : OpenClaim := { program := "ytbldcbakhpdigaa", sum := "33e6780d15851151fc9a8eb93fa145f67aab6d6bd88230ce91cf16b4244af4f4", func := "docket/docketlaw06.BtreePages", spec := "btreePages", inPlace := ["internal/bytealg.abigen_runtime_cmpstring", "slices.overlaps[docket/api.Pair]", "slices.overlaps[string]", "slices.overlaps[int]"], unfollowed := true, recurses := true, apart := false, narrowed := true }
def BtreePagesUptoSaid : Prop := btreePagesUptoRow.holds Try.pinned (OpenSpec.upto btreePagesSpec)

/-- 'docketlaw06.BtreeEmpty', WHERE WHAT IT READS IS OF BULK AT MOST 1048576: true; the input reads as it did. -/
def btreeEmptyUptoRow : OpenClaim := { program := "ytbldcbakhpdigaa", sum := "33e6780d15851151fc9a8eb93fa145f67aab6d6bd88230ce91cf16b4244af4f4", func := "docket/docketlaw06.BtreeEmpty", spec := "btreeEmpty", inPlace := ["internal/bytealg.abigen_runtime_cmpstring", "slices.overlaps[docket/api.Pair]", "slices.overlaps[string]", "slices.overlaps[int]"], unfollowed := true, recurses := true, apart := false, narrowed := true }
def BtreeEmptyUptoSaid : Prop := btreeEmptyUptoRow.holds Try.pinned (OpenSpec.upto btreeEmptySpec)

/-- 'docketlaw06.BtreeCopies', WHERE WHAT IT READS IS OF BULK AT MOST 1048576: true; the input reads as it did. -/
def btreeCopiesUptoRow : OpenClaim := { program := "ytbldcbakhpdigaa", sum := "33e6780d15851151fc9a8eb93fa145f67aab6d6bd88230ce91cf16b4244af4f4", func := "docket/docketlaw06.BtreeCopies", spec := "btreeCopies", inPlace := ["internal/bytealg.abigen_runtime_cmpstring", "slices.overlaps[docket/api.Pair]", "slices.overlaps[string]", "slices.overlaps[int]"], unfollowed := true, recurses := true, apart := false, narrowed := true }
def BtreeCopiesUptoSaid : Prop := btreeCopiesUptoRow.holds Try.pinned (OpenSpec.upto btreeCopiesSpec)

/-- 'docketlaw06.BtreeNone', WHERE WHAT IT READS IS OF BULK AT MOST 1048576: true; the input reads as it did. -/
def btreeNoneUptoRow : OpenClaim := { program := "ytbldcbakhpdigaa", sum := "33e6780d15851151fc9a8eb93fa145f67aab6d6bd88230ce91cf16b4244af4f4", func := "docket/docketlaw06.BtreeNone", spec := "btreeNone", inPlace := ["internal/bytealg.abigen_runtime_cmpstring", "slices.overlaps[docket/api.Pair]", "slices.overlaps[string]", "slices.overlaps[int]"], unfollowed := true, recurses := true, apart := false, narrowed := true }
def BtreeNoneUptoSaid : Prop := btreeNoneUptoRow.holds Try.pinned (OpenSpec.upto btreeNoneSpec)

end Rows
end Go.Proofs.Ytbldcbakhpdigaa
