/- ServeNone: the card's closed facts. -/
import Derived.Test.YtpmbddooibgnaaaGreatDoorCards
import Derived.SevenTiedAt
set_option maxRecDepth 100000
set_option maxHeartbeats 8000000
set_option linter.all false
namespace Go.Proofs.YtpmbddooibgnaaaGreatDoor
open Go
theorem cf_wf : Rows.serveNoneRow.wfByText (OpenSpec.ofChange Rows.serveNoneSpec) = true := by kernel_rfl
theorem cf_start : Rows.serveNoneRow.start = .entering := by kernel_rfl
theorem cf_nb : Rows.serveNoneRow.noBlocks = false ∧ Rows.serveNoneRow.again = false := ⟨by kernel_rfl, by kernel_rfl⟩
theorem cf_main : Tryz.pinned.checked.prog.mainIs = some (true, ("46ccc188bda37ae463570f5de8e491189e382c20b68c7864c4dd732a0b700e05" : String).toList) := by kernel_rfl
theorem cf_har : (!true && ("46ccc188bda37ae463570f5de8e491189e382c20b68c7864c4dd732a0b700e05" : String).isEmpty && !true) = false := by kernel_rfl
theorem cf_named : Tryz.pinned.checked.prog.funcNamed Rows.serveNoneRow.func = some 3 := by kernel_rfl
theorem cf_looks : true = Tryz.pinned.checked.prog.looks [] := by kernel_rfl
theorem cf_stand : Tryz.pinned.checked.prog.wantsStandIn 23 = false := by kernel_rfl
end Go.Proofs.YtpmbddooibgnaaaGreatDoor
