/- WorldTicks: the card's closed facts. -/
import Derived.Test.YtpmbddooibgnaaaGreatDoorCards
import Derived.SevenTiedAt
import Derived.Test.YtpmbddooibgnaaaGreatDoorSnG
import Derived.Test.YtpmbddooibgnaaaGreatDoorSnT
set_option maxRecDepth 100000
set_option maxHeartbeats 8000000
set_option linter.all false
namespace Go.Proofs.YtpmbddooibgnaaaGreatDoor
open Go
theorem cf_wf : Rows.worldTicksRow.wfByText (OpenSpec.ofChange Rows.worldTicksSpec) = true := by kernel_rfl
theorem cf_start : Rows.worldTicksRow.start = .entering := by kernel_rfl
theorem cf_nb : Rows.worldTicksRow.noBlocks = false ∧ Rows.worldTicksRow.again = false := ⟨by kernel_rfl, by kernel_rfl⟩
theorem cf_main : Tryz.pinned.checked.prog.mainIs = some (true, ("46ccc188bda37ae463570f5de8e491189e382c20b68c7864c4dd732a0b700e05" : String).toList) := by kernel_rfl
theorem cf_har : (!true && ("46ccc188bda37ae463570f5de8e491189e382c20b68c7864c4dd732a0b700e05" : String).isEmpty && !true) = false := by kernel_rfl
theorem cf_named : Tryz.pinned.checked.prog.funcNamed Rows.worldTicksRow.func = some 4 := by kernel_rfl
theorem cf_looks : true = Tryz.pinned.checked.prog.looks [] := by kernel_rfl
theorem cf_stand1 : Tryz.pinned.checked.prog.wantsStandIn 39 = false := by kernel_rfl
theorem cf_stand2 : Tryz.pinned.checked.prog.wantsStandIn 4 = false := by kernel_rfl
theorem goes_law : false = Rows.worldTicksRow.goesBy Tryz.pinned.checked.prog := by
  show false = Tryz.prog.goesAt Rows.worldTicksRow.start Rows.worldTicksRow.func
  unfold Program.goesAt
  rw [goes_no]
  rfl
theorem worldTicks_row_tie : Rows.worldTicksRow.laidByTextAt .later Tryz.pinned [.pinned, .data, .pinned, .sentinel, .sentinel, .data, .data, .data, .data, .data] true :=
  OpenClaim.laidByTextAt_pinned rfl rfl tieT rfl rfl rfl rfl (fun y hy _e => by
    simp only [Rows.worldTicksRow, List.zip_cons_cons, List.zip_nil_right, List.mem_cons, List.mem_nil_iff, or_false] at hy
    rcases hy with rfl | rfl | rfl | rfl | rfl | rfl | rfl | rfl | rfl | rfl
    · exact ⟨pin_laid_unicode_utf8_first, by kernel_rfl⟩
    · cases _e
    · exact ⟨pin_laid_unicode_CaseRanges, by kernel_rfl⟩
    · cases _e
    · cases _e
    · cases _e
    · cases _e
    · cases _e
    · cases _e
    · cases _e) fits1
end Go.Proofs.YtpmbddooibgnaaaGreatDoor
