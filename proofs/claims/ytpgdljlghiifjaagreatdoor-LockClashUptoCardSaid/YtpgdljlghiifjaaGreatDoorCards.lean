/-
  DERIVED. GIVEN WITH THE SEED: THE CARDS: each row of YtpgdljlghiifjaaGreatDoorRows.lean that lists a variable, with what it lists TIED to the program's text (the seventh form; the later family's looks); each row that meets fmt, with fmt's text TOLD by the authors' own Lean function (tested against real Go, not proved from fmt's source: count such statements apart). THE CARD IS WHAT COUNTS. Prove the row's statement (the work); the ties are given (YtpgdljlghiifjaaGreatDoorTie.lean); close each card by the builder's one call (the guide's Derived/Test/ToyasCard.lean, 'card_holds'). Laid BY PROGRAM, IN A SANDBOX (cutbox-door.mjs). By AI agents, Wed Nov 11 2026. No macro, syntax, notation, axiom, sorry.
-/
import Derived.Test.YtpgdljlghiifjaaGreatDoorRows
import GoSem.ClaimSeven
namespace Go.Proofs.YtpgdljlghiifjaaGreatDoor
namespace Rows

/-- THE TIED CARD OF 'docketlaw15.LockTells'. -/
def lockTellsCard : Claim7 := { stood := { row := lockTellsRow, standIns := [], harness := (true, "f04ccda6b4cdaaf0c5d83bfc1f7fefa9d64facaa6ada9e745412eea37d69438a"), looks := true }, kinds := [], alts := [], laidByText := true, laidKinds := [.data, .pinned], laidTests := true, laidLooks := .later }
def LockTellsCardSaid : Prop := Claim7.holds Tryz.pinned (.plain (OpenSpec.ofChange lockTellsSpec)) lockTellsCard

/-- THE TIED CARD OF 'docketlaw15.LockClash'. -/
def lockClashCard : Claim7 := { stood := { row := lockClashRow, standIns := [], harness := (true, "f04ccda6b4cdaaf0c5d83bfc1f7fefa9d64facaa6ada9e745412eea37d69438a"), looks := true }, kinds := [], alts := [], laidByText := true, laidKinds := [.data, .pinned], laidTests := true, laidLooks := .later }
def LockClashCardSaid : Prop := Claim7.holds Tryz.pinned (.plain (OpenSpec.ofChange lockClashSpec)) lockClashCard

/-- THE TIED CARD OF 'docketlaw15.LockSwaps'. -/
def lockSwapsCard : Claim7 := { stood := { row := lockSwapsRow, standIns := [], harness := (true, "f04ccda6b4cdaaf0c5d83bfc1f7fefa9d64facaa6ada9e745412eea37d69438a"), looks := true }, kinds := [], alts := [], laidByText := true, laidKinds := [.data, .pinned], laidTests := true, laidLooks := .later }
def LockSwapsCardSaid : Prop := Claim7.holds Tryz.pinned (.plain (OpenSpec.ofChange lockSwapsSpec)) lockSwapsCard

/-- THE TIED CARD OF 'docketlaw15.LockExpires'. -/
def lockExpiresCard : Claim7 := { stood := { row := lockExpiresRow, standIns := [], harness := (true, "f04ccda6b4cdaaf0c5d83bfc1f7fefa9d64facaa6ada9e745412eea37d69438a"), looks := true }, kinds := [], alts := [], laidByText := true, laidKinds := [.data, .pinned], laidTests := true, laidLooks := .later }
def LockExpiresCardSaid : Prop := Claim7.holds Tryz.pinned (.plain (OpenSpec.ofChange lockExpiresSpec)) lockExpiresCard

/-- THE TIED CARD OF 'docketlaw15.LockAlone'. -/
def lockAloneCard : Claim7 := { stood := { row := lockAloneRow, standIns := [], harness := (true, "f04ccda6b4cdaaf0c5d83bfc1f7fefa9d64facaa6ada9e745412eea37d69438a"), looks := true }, kinds := [], alts := [], laidByText := true, laidKinds := [.data, .pinned], laidTests := true, laidLooks := .later }
def LockAloneCardSaid : Prop := Claim7.holds Tryz.pinned (.plain (OpenSpec.ofChange lockAloneSpec)) lockAloneCard

/-- THE TIED CARD OF 'docketlaw15.LockNone'. -/
def lockNoneCard : Claim7 := { stood := { row := lockNoneRow, standIns := [], harness := (true, "f04ccda6b4cdaaf0c5d83bfc1f7fefa9d64facaa6ada9e745412eea37d69438a"), looks := true }, kinds := [], alts := [], laidByText := true, laidKinds := [.data, .pinned], laidTests := true, laidLooks := .later }
def LockNoneCardSaid : Prop := Claim7.holds Tryz.pinned (.plain (OpenSpec.ofChange lockNoneSpec)) lockNoneCard

/-- THE SECOND FORM's CARD OF 'docketlaw15.LockTells'. -/
def lockTellsUptoCard : Claim7 := { stood := { row := lockTellsUptoRow, standIns := [], harness := (true, "f04ccda6b4cdaaf0c5d83bfc1f7fefa9d64facaa6ada9e745412eea37d69438a"), looks := true }, kinds := [], alts := [], laidByText := true, laidKinds := [.data, .pinned], laidTests := true, laidLooks := .later }
def LockTellsUptoCardSaid : Prop := Claim7.holds Tryz.pinned (.plain (OpenSpec.upto lockTellsSpec)) lockTellsUptoCard

/-- THE SECOND FORM's CARD OF 'docketlaw15.LockClash'. -/
def lockClashUptoCard : Claim7 := { stood := { row := lockClashUptoRow, standIns := [], harness := (true, "f04ccda6b4cdaaf0c5d83bfc1f7fefa9d64facaa6ada9e745412eea37d69438a"), looks := true }, kinds := [], alts := [], laidByText := true, laidKinds := [.data, .pinned], laidTests := true, laidLooks := .later }
def LockClashUptoCardSaid : Prop := Claim7.holds Tryz.pinned (.plain (OpenSpec.upto lockClashSpec)) lockClashUptoCard

/-- THE SECOND FORM's CARD OF 'docketlaw15.LockSwaps'. -/
def lockSwapsUptoCard : Claim7 := { stood := { row := lockSwapsUptoRow, standIns := [], harness := (true, "f04ccda6b4cdaaf0c5d83bfc1f7fefa9d64facaa6ada9e745412eea37d69438a"), looks := true }, kinds := [], alts := [], laidByText := true, laidKinds := [.data, .pinned], laidTests := true, laidLooks := .later }
def LockSwapsUptoCardSaid : Prop := Claim7.holds Tryz.pinned (.plain (OpenSpec.upto lockSwapsSpec)) lockSwapsUptoCard

/-- THE SECOND FORM's CARD OF 'docketlaw15.LockExpires'. -/
def lockExpiresUptoCard : Claim7 := { stood := { row := lockExpiresUptoRow, standIns := [], harness := (true, "f04ccda6b4cdaaf0c5d83bfc1f7fefa9d64facaa6ada9e745412eea37d69438a"), looks := true }, kinds := [], alts := [], laidByText := true, laidKinds := [.data, .pinned], laidTests := true, laidLooks := .later }
def LockExpiresUptoCardSaid : Prop := Claim7.holds Tryz.pinned (.plain (OpenSpec.upto lockExpiresSpec)) lockExpiresUptoCard

/-- THE SECOND FORM's CARD OF 'docketlaw15.LockAlone'. -/
def lockAloneUptoCard : Claim7 := { stood := { row := lockAloneUptoRow, standIns := [], harness := (true, "f04ccda6b4cdaaf0c5d83bfc1f7fefa9d64facaa6ada9e745412eea37d69438a"), looks := true }, kinds := [], alts := [], laidByText := true, laidKinds := [.data, .pinned], laidTests := true, laidLooks := .later }
def LockAloneUptoCardSaid : Prop := Claim7.holds Tryz.pinned (.plain (OpenSpec.upto lockAloneSpec)) lockAloneUptoCard

/-- THE SECOND FORM's CARD OF 'docketlaw15.LockNone'. -/
def lockNoneUptoCard : Claim7 := { stood := { row := lockNoneUptoRow, standIns := [], harness := (true, "f04ccda6b4cdaaf0c5d83bfc1f7fefa9d64facaa6ada9e745412eea37d69438a"), looks := true }, kinds := [], alts := [], laidByText := true, laidKinds := [.data, .pinned], laidTests := true, laidLooks := .later }
def LockNoneUptoCardSaid : Prop := Claim7.holds Tryz.pinned (.plain (OpenSpec.upto lockNoneSpec)) lockNoneUptoCard
end Rows
end Go.Proofs.YtpgdljlghiifjaaGreatDoor
