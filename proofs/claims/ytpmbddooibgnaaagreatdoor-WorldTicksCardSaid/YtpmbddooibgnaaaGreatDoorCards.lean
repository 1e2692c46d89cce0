/-
  DERIVED. GIVEN WITH THE SEED: THE CARDS: each row of YtpmbddooibgnaaaGreatDoorRows.lean that lists a variable, with what it lists TIED to the program's text (the seventh form; the later family's looks); each row that meets fmt, with fmt's text TOLD by the authors' own Lean function (tested against real Go, not proved from fmt's source: count such statements apart). THE CARD IS WHAT COUNTS. Prove the row's statement (the work); the ties are given (YtpmbddooibgnaaaGreatDoorTie.lean); close each card by the builder's one call (the guide's Derived/Test/ToyasCard.lean, 'card_holds'). Laid BY PROGRAM, IN A SANDBOX (cutbox-door.mjs). By AI agents, Wed Nov 11 2026. No macro, syntax, notation, axiom, sorry.
-/
import Derived.Test.YtpmbddooibgnaaaGreatDoorRows
import GoSem.ClaimSeven
namespace Go.Proofs.YtpmbddooibgnaaaGreatDoor
namespace Rows

/-- THE TIED CARD OF 'docketlaw20.ServeNone'. -/
def serveNoneCard : Claim7 := { stood := { row := serveNoneRow, standIns := [], harness := (true, "46ccc188bda37ae463570f5de8e491189e382c20b68c7864c4dd732a0b700e05"), looks := true }, kinds := [], alts := [], laidByText := true, laidKinds := [.pinned, .data, .pinned, .sentinel, .sentinel, .data, .data, .data, .data, .data], laidTests := true, laidLooks := .later }
def ServeNoneCardSaid : Prop := Claim7.holds Tryz.pinned (.plain (OpenSpec.ofChange serveNoneSpec)) serveNoneCard

/-- THE TIED CARD OF 'docketlaw21.WorldTicks'. -/
def worldTicksCard : Claim7 := { stood := { row := worldTicksRow, standIns := [], harness := (true, "46ccc188bda37ae463570f5de8e491189e382c20b68c7864c4dd732a0b700e05"), looks := true }, kinds := [], alts := [], laidByText := true, laidKinds := [.pinned, .data, .pinned, .sentinel, .sentinel, .data, .data, .data, .data, .data], laidTests := true, laidLooks := .later }
def WorldTicksCardSaid : Prop := Claim7.holds Tryz.pinned (.plain (OpenSpec.ofChange worldTicksSpec)) worldTicksCard

/-- THE TIED CARD OF 'docketlaw21.WorldNone'. -/
def worldNoneCard : Claim7 := { stood := { row := worldNoneRow, standIns := [], harness := (true, "46ccc188bda37ae463570f5de8e491189e382c20b68c7864c4dd732a0b700e05"), looks := true }, kinds := [], alts := [], laidByText := true, laidKinds := [.pinned, .data, .pinned, .sentinel, .sentinel, .data, .data, .data, .data, .data], laidTests := true, laidLooks := .later }
def WorldNoneCardSaid : Prop := Claim7.holds Tryz.pinned (.plain (OpenSpec.ofChange worldNoneSpec)) worldNoneCard

/-- THE SECOND FORM's CARD OF 'docketlaw20.ServeNone'. -/
def serveNoneUptoCard : Claim7 := { stood := { row := serveNoneUptoRow, standIns := [], harness := (true, "46ccc188bda37ae463570f5de8e491189e382c20b68c7864c4dd732a0b700e05"), looks := true }, kinds := [], alts := [], laidByText := true, laidKinds := [.pinned, .data, .pinned, .sentinel, .sentinel, .data, .data, .data, .data, .data], laidTests := true, laidLooks := .later }
def ServeNoneUptoCardSaid : Prop := Claim7.holds Tryz.pinned (.plain (OpenSpec.upto serveNoneSpec)) serveNoneUptoCard

/-- THE SECOND FORM's CARD OF 'docketlaw21.WorldTicks'. -/
def worldTicksUptoCard : Claim7 := { stood := { row := worldTicksUptoRow, standIns := [], harness := (true, "46ccc188bda37ae463570f5de8e491189e382c20b68c7864c4dd732a0b700e05"), looks := true }, kinds := [], alts := [], laidByText := true, laidKinds := [.pinned, .data, .pinned, .sentinel, .sentinel, .data, .data, .data, .data, .data], laidTests := true, laidLooks := .later }
def WorldTicksUptoCardSaid : Prop := Claim7.holds Tryz.pinned (.plain (OpenSpec.upto worldTicksSpec)) worldTicksUptoCard

/-- THE SECOND FORM's CARD OF 'docketlaw21.WorldNone'. -/
def worldNoneUptoCard : Claim7 := { stood := { row := worldNoneUptoRow, standIns := [], harness := (true, "46ccc188bda37ae463570f5de8e491189e382c20b68c7864c4dd732a0b700e05"), looks := true }, kinds := [], alts := [], laidByText := true, laidKinds := [.pinned, .data, .pinned, .sentinel, .sentinel, .data, .data, .data, .data, .data], laidTests := true, laidLooks := .later }
def WorldNoneUptoCardSaid : Prop := Claim7.holds Tryz.pinned (.plain (OpenSpec.upto worldNoneSpec)) worldNoneUptoCard
end Rows
end Go.Proofs.YtpmbddooibgnaaaGreatDoor
